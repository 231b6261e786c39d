import Derived.Test.YtdhjjpnajjingaaGreatKL06
import Derived.Test.YtdhjjpnajjingaaGreatChecked
import Derived.Laws.Externs
set_option linter.unusedVariables false
set_option linter.unnecessarySimpa false
set_option linter.unusedSimpArgs false
open Bool renaming true→zT,false→zU
open Go.Value renaming int→zI
open Go.IntKind renaming i64→z6
set_option maxHeartbeats 8000000
set_option maxRecDepth 100000
open Go.Proofs.Tryz
open Go.Lib renaming hid→zH
open Go.Ext renaming alloc→zA,patch→zP,drew→zD,drewN→zN,more→zM,refl→zR,setCell→zS
open Nat renaming le_refl→zL,le_add_right→zK
namespace Go.Proofs.YtdhjjpnajjingaaGreat
open Go Go.RowKit
theorem ykj (b:Nat) (w:World):(callFunc 274 #[.float .f64 b]).run prog w=.ok (.value (.int .u64 b)) w:=
 run_callFunc_extern (e:=Extern.MathFloatBits.float64bits) func274 zQ zQ zQ zQ _ _
def partF (b:Nat):Int:=if (FloatKind.format .f64).order b b=some .eq then b else 9221120237041090560
theorem yji (b:Nat) (w:World):Calls prog 260 #[.float .f64 b] w fun e w'=>e=.returned (.int .u64 (partF b))∧w=w':=by
 have hf:=ykj;by_cases h:(FloatKind.format .f64).order b b=some .eq
 · have HV:=zH (show partF b=b from if_pos h);have hb:((FloatKind.format .f64).order b b !=some .eq)=false:=by simp [h]
   clear h;go_enter func260,ntmps260;go_wp2
   go_ret;exact ⟨by rw [HV.out];rfl,rfl⟩
 · have HV:=zH (show partF b=9221120237041090560 from if_neg h);have hb:((FloatKind.format .f64).order b b !=some .eq)=true:=by simp [h]
   clear h;go_enter func260,ntmps260;go_wp2
   go_ret;exact ⟨by rw [HV.out];rfl,rfl⟩
theorem yjg (x y:Nat) (w:World):Calls prog 228 #[.complex .f64 x y] w fun e w'=>e=.returned (.tuple #[.int .u64 (partF x),.int .u64 (partF y)])∧w=w':=by
 have H:=zH (fun b w=>yji b w);go_enter func228,ntmps228;go_wp2_with fail;refine (H.out _ _).mono ?_;rintro e w1 ⟨rfl,rfl⟩;go_wp2_with fail;refine (H.out _ _).mono ?_;rintro e w1 ⟨rfl,rfl⟩;go_wp2_with fail;go_ret2;exact ⟨rfl,rfl⟩
def sameF (p q:Nat × Nat):Bool:=partF p.1==partF q.1&&partF p.2==partF q.2
theorem yhV (p:Nat × Nat):sameF p p=true:=by simp [sameF]
theorem ybo (p q:Nat × Nat) (w:World):Calls prog 165 #[.complex .f64 p.1 p.2,.complex .f64 q.1 q.2] w fun e w'=>e=.returned (.bool (sameF p q))∧w=w':=by
 have H:=zH (fun x y w=>yjg x y w);have HV:=zH (show sameF p q=(partF p.1==partF q.1&&partF p.2==partF q.2) from rfl);obtain ⟨p1,p2⟩:=p;obtain ⟨q1,q2⟩:=q;simp only at HV ⊢;have H1:=zH (H.out p1 p2);have H2:=zH (H.out q1 q2);clear H;generalize partF p1=x1 at *;generalize partF p2=x2 at *;generalize partF q1=y1 at *;generalize partF q2=y2 at *;cases hb:(x1==y1)
 · have HV2:=zH (show sameF (p1,p2) (q1,q2)=false by rw [HV.out,hb];rfl);go_enter func165,ntmps165;go_wp2_with fail;refine (H1.out _).mono ?_;rintro e w1 ⟨rfl,rfl⟩;go_wp2_with fail;refine (H2.out _).mono ?_;rintro e w1 ⟨rfl,rfl⟩;go_wp2_with fail;go_ret;exact ⟨by rw [HV2.out];rfl,rfl⟩
 · have HV2:=zH (show sameF (p1,p2) (q1,q2)=(x2==y2) by rw [HV.out,hb];rfl);go_enter func165,ntmps165;go_wp2_with fail;refine (H1.out _).mono ?_;rintro e w1 ⟨rfl,rfl⟩;go_wp2_with fail;refine (H2.out _).mono ?_;rintro e w1 ⟨rfl,rfl⟩;go_wp2_with fail;go_ret;exact ⟨by rw [HV2.out];rfl,rfl⟩
theorem yhF (a b:Nat) (w:World):Calls prog 165 #[.complex .f64 a b,.complex .f64 a b] w (Gives (.bool true) w):=
 (ybo (a,b) (a,b) w).mono fun e w' ⟨h1,h2⟩=>⟨by rw [h1,yhV],by rw [←h2];exact Ext.refl _⟩
theorem yda {n:Int} (hn:Fits n):wWhole n=.complex .f64 (floatOfInt .f64 n) 0:=by
 have:=hn.lo;have:=hn.hi;unfold wWhole;rw [if_neg zo]
theorem yjh (n:Int) (hn:Fits n) (w:World):Calls prog 151 #[.complex .f64 (floatOfInt .f64 n) 0] w (Gives (.tuple #[.int .i64 n,.bool true]) w):=by
 have hcv: ∀w,(convert 205 3 (.float .f64 (floatOfInt .f64 n))).run prog w=.ok (zI z6 n) w:=fun w=>run_convert_float_int w _ _ _ _ _ n zQ zQ (ybQ hn);have hlo:=yjp hn;have hhi:=yhO hn;have HWH:=zH (fun w=>yda hn▸ycQ n w);generalize floatOfInt .f64 n=b at *;have HSM:=zH (fun w=>yhF b 0 w);generalize hq:(FloatKind.format .f64).order b 14069245235905429504=q1 at hlo;generalize hr:(FloatKind.format .f64).order b 4845873199050653696=q2 at hhi;have hlo':(q1==some .gt)=true∨(q1==some .eq)=true:=by simpa using hlo
 have hhi':(q2==some .lt)=true∨(q2==some .eq)=true:=by simpa using hhi
 obtain ⟨o1,rfl⟩: ∃o:Ordering,q1=some o:=by
  cases q1 with
  |none=>exact absurd hlo zd
  |some o=>exact ⟨o,rfl⟩
 obtain ⟨o2,rfl⟩: ∃o:Ordering,q2=some o:=by
  cases q2 with
  |none=>exact absurd hhi zd
  |some o=>exact ⟨o,rfl⟩
 clear hlo' hhi';cases o1<;>first|exact absurd hlo zd|skip
 all_goals
  cases o2<;>first|exact absurd hhi zd|skip
  all_goals
   clear hlo hhi;go_enter func151,ntmps151;go_wp2_with fail;refine (HWH.out _).mono ?_;rintro e w1 ⟨rfl,X1,rfl⟩;go_wp2_with fail;refine (HSM.out _).mono ?_;rintro e w1 ⟨rfl,X2,rfl⟩;go_wp2_with fail;go_ret2;exact Gives.mk rfl zE
end Go.Proofs.YtdhjjpnajjingaaGreat
namespace Go
open Ieee
theorem ykc (neg:Bool) (n d:Nat):Toward.zero.cut neg n d=n/2 ^ d:=by
 unfold Toward.cut;simp only [Bool.toNat_false,Nat.add_zero,Nat.shiftLeft_eq,Nat.one_mul];by_cases h:d≤n.log2+2
 · rw [Nat.min_eq_left h]
 · have h2:n<2 ^ (n.log2+1):=Nat.lt_log2_self;rw [Nat.min_eq_right zo,Nat.div_eq_of_lt,Nat.div_eq_of_lt]
   · exact Nat.lt_of_lt_of_le h2 (Nat.pow_le_pow_right zd zo)
   · exact Nat.lt_of_lt_of_le h2 (Nat.pow_le_pow_right zd zo)
theorem ygk {s:Bool} {N:Nat} (h:N≤9007199254740992):Fits (signed s N 0):=by
 rw [yav];rw [Nat.pow_zero,Nat.mul_one];cases s
 · exact ⟨by rw [if_neg zd];omega,by rw [if_neg zd];omega⟩
 · exact ⟨by rw [if_pos rfl];omega,by rw [if_pos rfl];omega⟩
theorem yjx {x:Nat} (h1:((FloatKind.format .f64).order x 14069245235905429504==some .gt || (FloatKind.format .f64).order x 14069245235905429504==some .eq)=true) (h2:((FloatKind.format .f64).order x 4845873199050653696==some .lt || (FloatKind.format .f64).order x 4845873199050653696==some .eq)=true): ∃n,Fits n∧floatToIntVal .f64 x .i64=some n:=by
 have e1:double.read 14069245235905429504=.number true 4503599627370496 1:=by decide+kernel
 have e2:double.read 4845873199050653696=.number false 4503599627370496 1:=by decide+kernel
 rw [show (FloatKind.format .f64)=double from rfl] at h1 h2;unfold Format.order at h1 h2;rw [e1] at h1;rw [e2] at h2
 have key: ∃n,Fits n∧(double.read x).toInt .zero=some n:=by
  generalize double.read x=d at *;cases d with
  |nan s t=>simp [Datum.order] at h1
  |infinity s=>cases s<;>simp [Datum.order] at h1 h2
  |number s m i=>
   have q1:signed true 4503599627370496 (1-min i 1).toNat≤signed s m (i-min i 1).toNat:=by
    refine Int.not_lt.1 fun hlt=>?_;have h3:=yct hlt;simp only [Datum.order] at h1;rw [h3] at h1;exact absurd h1 zd
   have q2:signed s m (i-min i 1).toNat≤signed false 4503599627370496 (1-min i 1).toNat:=by
    refine Int.not_lt.1 fun hlt=>?_;have h3:=ycs hlt;simp only [Datum.order] at h2;rw [h3] at h2;exact absurd h2 zd
   rw [yav,yav] at q1 q2
   have hA:m*2 ^ (i-min i 1).toNat≤4503599627370496*2 ^ (1-min i 1).toNat:=by
    generalize m*2 ^ (i-min i 1).toNat=A at *;generalize 4503599627370496*2 ^ (1-min i 1).toNat=B at *;cases s
    · simp at q2;omega
    · simp at q1;omega
   clear q1 q2 h1 h2 e1 e2;refine ⟨signed s ((m<<<i.toNat)/2 ^ (-i).toNat) 0,ygk ?_,by unfold Datum.toInt Datum.integral;simp only;rw [ykc]⟩;rw [Nat.shiftLeft_eq];by_cases hi:i≤0
   · rw [Int.min_eq_left zo,show (i-i).toNat=0 by omega,show (1-i).toNat=(-i).toNat+1 by omega,Nat.pow_zero,Nat.mul_one,Nat.pow_succ] at hA;rw [show i.toNat=0 by omega,Nat.pow_zero,Nat.mul_one];refine Nat.div_le_of_le_mul ?_;rw [Nat.mul_comm];omega
   · rw [Int.min_eq_right zo,show ((1:Int)-1).toNat=0 by decide,Nat.pow_zero,Nat.mul_one] at hA;rw [show (-i).toNat=0 by omega,Nat.pow_zero,Nat.div_one,show i.toNat=(i-1).toNat+1 by omega,Nat.pow_succ, ←Nat.mul_assoc];omega
 obtain ⟨n,hn,hk⟩:=key;refine ⟨n,hn,?_⟩;unfold floatToIntVal;rw [show (FloatKind.decode .f64 x).toInt .zero=some n from hk];simp only;rw [if_pos];have e1:IntKind.min .i64= -9223372036854775808:=zd;have e2:IntKind.max .i64=9223372036854775807:=zd;have:=hn.lo;have:=hn.hi;rw [e1,e2];omega
def wInt (p:Nat × Nat):Option Int:=match floatToIntVal .f64 p.1 .i64 with
 |some n=>if-9007199254740992≤n∧n≤9007199254740992∧p.1=floatOfInt .f64 n∧p.2=0 then some n else none
 |none=>none
theorem yjX {n:Int} (hn:Fits n):wInt (floatOfInt .f64 n,0)=some n:=by
 unfold wInt;rw [ybQ hn];simp only;rw [if_pos ⟨hn.lo,hn.hi,trivial,trivial⟩]
theorem ybU {p:Nat × Nat} {n:Int} (h:wInt p=some n):Fits n∧p=(floatOfInt .f64 n,0):=by
 unfold wInt at h;split at h
 · split at h
   · rename_i hc
     injection h with h;subst h;exact ⟨⟨hc.1,hc.2.1⟩,Prod.ext hc.2.2.1 hc.2.2.2⟩
   · cases h
 · cases h
theorem yjY {p:Nat × Nat} (h:wInt p=none) {n:Int} (hn:Fits n):p≠(floatOfInt .f64 n,0):=fun e=>by
 rw [e,yjX hn] at h;cases h
def wIndex (p:Nat × Nat):Option Int:=match wInt (p.1,0) with
 |some n=>if 1≤n∧n≤1099511627777∧p.2=4607182418800017408 then some (n-1) else none
 |none=>none
theorem yc9 {p:Nat × Nat} {i:Int} (h:wIndex p=some i):(0≤i∧i≤1099511627776)∧p=(floatOfInt .f64 (i+1),4607182418800017408):=by
 unfold wIndex at h;split at h
 · rename_i n hn
   split at h
   · rename_i hc
     injection h with h;subst h;have h2:=congrArg Prod.fst (ybU hn).2;exact ⟨zo,Prod.ext (by rw [Int.sub_add_cancel];exact h2) hc.2.2⟩
   · cases h
 · cases h
def wIs (p:Nat × Nat):Bool:=(wIndex p).isSome || decide (p=(0,4607182418800017408))
def wTell (p:Nat × Nat):Option (Int × Int):=match wInt (p.1,0),wInt (p.2,0) with
 |some k,some m=>if 0≤k∧k≤1099511627776∧0≤m∧m≤1099511627776 then some (k,m) else none
 |_,_=>none
def optV (o:Option Int):Value:=.tuple #[.int .i64 (o.getD 0),.bool o.isSome]
def tellV (o:Option (Int × Int)):Value:=.tuple #[.int .i64 ((o.map Prod.fst).getD 0),.int .i64 ((o.map Prod.snd).getD 0),.bool o.isSome]
end Go
namespace Go.Proofs.YtdhjjpnajjingaaGreat
open Go Go.RowKit
theorem yhP {n:Int} (h:Fits n):partF (floatOfInt .f64 n)=floatOfInt .f64 n:=if_pos (ycc h)
theorem yfz {n:Int} (h:Fits n):floatOfInt .f64 n≠9221120237041090560:=fun e=>by
 have h1:=ycc h;rw [e] at h1;exact absurd h1 (by decide+kernel)
theorem yfy {x:Nat} {n:Int} (h:Fits n):(partF x==partF (floatOfInt .f64 n))=decide (x=floatOfInt .f64 n):=by
 rw [yhP h,Bool.eq_iff_iff,beq_iff_eq,decide_eq_true_iff];unfold partF;split
 · omega
 · rename_i hx
   constructor
   · intro e;exact absurd (show floatOfInt .f64 n=9221120237041090560 by omega) (yfz h)
   · intro e;exact absurd (by rw [e];exact ycc h) hx
theorem ycf {p:Nat × Nat} {a b:Int} (ha:Fits a) (hb:Fits b):sameF p (floatOfInt .f64 a,floatOfInt .f64 b)=decide (p=(floatOfInt .f64 a,floatOfInt .f64 b)):=by
 unfold sameF;rw [yfy ha,yfy hb,Bool.eq_iff_iff,Bool.and_eq_true,decide_eq_true_iff,decide_eq_true_iff,decide_eq_true_iff];exact ⟨fun h=>Prod.ext h.1 h.2,fun h=>⟨congrArg Prod.fst h,congrArg Prod.snd h⟩⟩
theorem ybf (p:Nat × Nat) (w:World):Calls prog 151 #[.complex .f64 p.1 p.2] w (Gives (optV (wInt p)) w):=by
 cases h:wInt p with
 |some n=>
  obtain ⟨hn,rfl⟩:=ybU h;exact yjh n hn w
 |none=>
  have HV:=zH (show optV none=.tuple #[.int .i64 0,.bool false] from rfl)
  have hcv:((FloatKind.format .f64).order p.1 14069245235905429504==some .gt || (FloatKind.format .f64).order p.1 14069245235905429504==some .eq)=true→((FloatKind.format .f64).order p.1 4845873199050653696==some .lt || (FloatKind.format .f64).order p.1 4845873199050653696==some .eq)=true→
   ∃n,(∀w,(convert 205 3 (.float .f64 p.1)).run prog w=.ok (zI z6 n) w)∧(∀w,Calls prog 152 #[.int .i64 n] w (Gives (.complex .f64 (floatOfInt .f64 n) 0) w))∧ ∀w,Calls prog 165 #[.complex .f64 p.1 p.2,.complex .f64 (floatOfInt .f64 n) 0] w (fun e w'=>e=.returned (.bool false)∧w=w'):=fun h1 h2=>by
   obtain ⟨n,hn,hk⟩:=yjx h1 h2;refine ⟨n,fun w=>run_convert_float_int w _ _ _ _ _ n zQ zQ hk,fun w=>yda hn▸ycQ n w,fun w=>?_⟩;have h3:=ybo p (floatOfInt .f64 n,0) w
   have h4:sameF p (floatOfInt .f64 n,0)=false:=by
    have h5:=ycf (p:=p) hn (b:=0) ⟨zo,zo⟩;rw [ybF] at h5;rw [h5];exact decide_eq_false (yjY h hn)
   rw [h4] at h3;exact h3
  have HCV:=zH hcv;obtain ⟨x,y⟩:=p;simp only at HCV ⊢;clear hcv h;generalize hq:(FloatKind.format .f64).order x 14069245235905429504=q1 at HCV;generalize hr:(FloatKind.format .f64).order x 4845873199050653696=q2 at HCV;rcases q1 with _|(_|_|_)
  all_goals
   rcases q2 with _|(_|_|_)
   all_goals
    first
     |(obtain ⟨n,h1,h2,h3⟩:=HCV.out zd zd
       have H2:=zH h2;have H3:=zH h3;clear h2 h3 HCV;go_enter func151,ntmps151;go_wp2_with fail;refine (H2.out _).mono ?_;rintro e w1 ⟨rfl,X1,rfl⟩;go_wp2_with fail;refine (H3.out _).mono ?_;rintro e w1 ⟨rfl,rfl⟩;go_wp2_with fail;go_ret2;exact Gives.mk rfl zE)
     |(clear HCV
       go_enter func151,ntmps151;go_wp2_with fail;go_ret2;exact Gives.mk rfl zE)
theorem yao (p:Nat × Nat) (w:World):Calls prog 91 #[.complex .f64 p.1 p.2] w (Gives (optV (wIndex p)) w):=by
 have HI:=zH (fun w=>ybf (p.1,0) w);cases h:wInt (p.1,0) with
 |none=>
  have HV:=zH (show wIndex p=none by unfold wIndex;rw [h]);rw [h] at HI;rw [HV.out];unfold optV at HI ⊢;obtain ⟨x,y⟩:=p;clear h HV;go_enter func91,ntmps91;go_wp2_with fail;refine (HI.out _).mono ?_;rintro e w1 ⟨rfl,X1,rfl⟩;go_wp2_with fail;go_ret2;exact Gives.mk rfl zE
 |some n=>
  rw [h] at HI;unfold optV at HI;by_cases h1:1≤n
  · by_cases h2:n≤1099511627777
    · have hp:p.1=floatOfInt .f64 n:=congrArg Prod.fst (ybU h).2;have HR:=zH (fun w=>(show Calls prog 149 #[.int .i64 (n-1)] w (Gives (.complex .f64 p.1 4607182418800017408) w) from (show wRef (n-1)=Value.complex .f64 p.1 4607182418800017408 by unfold wRef;rw [if_neg zo,Int.sub_add_cancel,hp])▸yd0 (n-1) w));have HS:=zH (fun w=>ybo p (p.1,4607182418800017408) w)
      have hsf:sameF p (p.1,4607182418800017408)=decide (p.2=4607182418800017408):=by
       have h5:=ycf (p:=p) (ybU h).1 (b:=1) ⟨zo,zo⟩;rw [yc0, ←hp] at h5;rw [h5,Bool.eq_iff_iff,decide_eq_true_iff,decide_eq_true_iff];exact ⟨fun e=>congrArg Prod.snd e,fun e=>Prod.ext rfl e⟩
      rw [hsf] at HS;by_cases h3:p.2=4607182418800017408
      · have HV:=zH (show optV (wIndex p)=.tuple #[.int .i64 (n-1),.bool true] by unfold wIndex;rw [h];simp only;rw [if_pos ⟨h1,h2,h3⟩];rfl);rw [decide_eq_true h3] at HS;rw [HV.out];obtain ⟨x,y⟩:=p;have e1:=IntWalk.i64_in (n-1) zo;simp only at HR HS HI ⊢;clear h h3 hp hsf HV;go_enter func91,ntmps91;go_wp2_with fail;refine (HI.out _).mono ?_;rintro e w1 ⟨rfl,X1,rfl⟩;go_wp2_with fail;refine (HR.out _).mono ?_;rintro e w1 ⟨rfl,X2,rfl⟩;go_wp2_with fail;refine (HS.out _).mono ?_;rintro e w1 ⟨rfl,rfl⟩;go_wp2_with fail;go_ret2;exact Gives.mk rfl zE
      · have HV:=zH (show optV (wIndex p)=.tuple #[.int .i64 0,.bool false] by unfold wIndex;rw [h];simp only;rw [if_neg (fun hc=>h3 hc.2.2)];rfl);rw [decide_eq_false h3] at HS;rw [HV.out];obtain ⟨x,y⟩:=p;have e1:=IntWalk.i64_in (n-1) zo;simp only at HR HS HI ⊢;clear h h3 hp hsf HV;go_enter func91,ntmps91;go_wp2_with fail;refine (HI.out _).mono ?_;rintro e w1 ⟨rfl,X1,rfl⟩;go_wp2_with fail;refine (HR.out _).mono ?_;rintro e w1 ⟨rfl,X2,rfl⟩;go_wp2_with fail;refine (HS.out _).mono ?_;rintro e w1 ⟨rfl,rfl⟩;go_wp2_with fail;go_ret2;exact Gives.mk rfl zE
    · have HV:=zH (show optV (wIndex p)=.tuple #[.int .i64 0,.bool false] by unfold wIndex;rw [h];simp only;rw [if_neg (fun hc=>h2 hc.2.1)];rfl);rw [HV.out];obtain ⟨x,y⟩:=p;have h4:1099511627777<n:=zo;clear h HV h2;go_enter func91,ntmps91;go_wp2_with fail;refine (HI.out _).mono ?_;rintro e w1 ⟨rfl,X1,rfl⟩;go_wp2_with fail;go_ret2;exact Gives.mk rfl zE
  · have HV:=zH (show optV (wIndex p)=.tuple #[.int .i64 0,.bool false] by unfold wIndex;rw [h];simp only;rw [if_neg (fun hc=>h1 hc.1)];rfl);rw [HV.out];obtain ⟨x,y⟩:=p;have h4:n<1:=zo;clear h HV h1;go_enter func91,ntmps91;go_wp2_with fail;refine (HI.out _).mono ?_;rintro e w1 ⟨rfl,X1,rfl⟩;go_wp2_with fail;go_ret2;exact Gives.mk rfl zE
theorem yi2 (p:Nat × Nat) (w:World):Calls prog 146 #[.complex .f64 p.1 p.2] w (Gives (.bool (wIs p)) w):=by
 have HI:=zH (fun w=>yao p w);have HN:=zH (fun w=>yaL w);have HS:=zH (fun w=>ybo p (0,4607182418800017408) w)
 have hsf:sameF p (0,4607182418800017408)=decide (p=(0,4607182418800017408)):=by
  have h5:=ycf (p:=p) (a:=0) (b:=1) ⟨zo,zo⟩ ⟨zo,zo⟩;rw [ybF,yc0] at h5;exact h5
 rw [hsf] at HS;have HV:=zH (show wIs p=((wIndex p).isSome || decide (p=(0,4607182418800017408))) from rfl);rw [HV.out];unfold optV at HI;unfold wNone at HN;simp only at HS;generalize decide (p=(0,4607182418800017408))=z at *;generalize (wIndex p).getD 0=i at *;generalize (wIndex p).isSome=s at *;obtain ⟨x,y⟩:=p;simp only at HI HS ⊢;clear HV hsf;cases s
 · go_enter func146,ntmps146;go_wp2_with fail;refine (HI.out _).mono ?_;rintro e w1 ⟨rfl,X1,rfl⟩;go_wp2_with fail;refine (HN.out _).mono ?_;rintro e w1 ⟨rfl,X2,rfl⟩;go_wp2_with fail;refine (HS.out _).mono ?_;rintro e w1 ⟨rfl,rfl⟩;go_wp2_with fail;go_ret;exact Gives.mk (by simp) zE
 · go_enter func146,ntmps146;go_wp2_with fail;refine (HI.out _).mono ?_;rintro e w1 ⟨rfl,X1,rfl⟩;go_wp2_with fail;go_ret;exact Gives.mk (by simp) zE
theorem yaQ (p:Nat × Nat) (w:World):Calls prog 248 #[.complex .f64 p.1 p.2] w (Gives (tellV (wTell p)) w):=by
 have HK:=zH (fun w=>ybf (p.1,0) w);have HM:=zH (fun w=>ybf (p.2,0) w);have hd:wTell p=(match wInt (p.1,0),wInt (p.2,0) with|some k,some m=>if 0≤k∧k≤1099511627776∧0≤m∧m≤1099511627776 then some (k,m) else none|_,_=>none):=rfl;unfold optV at HK HM;generalize wInt (p.1,0)=a at *;generalize wInt (p.2,0)=b at *;obtain ⟨x,y⟩:=p;simp only at HK HM;have fin: ∀{v:Value},tellV (wTell (x,y))=v→Calls prog 248 #[.complex .f64 x y] w (Gives v w)→Calls prog 248 #[.complex .f64 x y] w (Gives (tellV (wTell (x,y))) w):=fun e h=>e▸h;rcases a with _|k
 · refine fin (v:=.tuple #[.int .i64 0,.int .i64 0,.bool false]) (by rw [hd];rfl) ?_;clear hd fin;go_enter func248,ntmps248;go_wp2_with fail;refine (HK.out _).mono ?_;rintro e w1 ⟨rfl,X1,rfl⟩;go_wp2_with fail;refine (HM.out _).mono ?_;rintro e w1 ⟨rfl,X2,rfl⟩;go_wp2_with fail;go_ret3
   exact Gives.mk rfl zE
 · rcases b with _|m
   · refine fin (v:=.tuple #[.int .i64 0,.int .i64 0,.bool false]) (by rw [hd];rfl) ?_;clear hd fin;go_enter func248,ntmps248;go_wp2_with fail;refine (HK.out _).mono ?_;rintro e w1 ⟨rfl,X1,rfl⟩;go_wp2_with fail;refine (HM.out _).mono ?_;rintro e w1 ⟨rfl,X2,rfl⟩;go_wp2_with fail;go_ret3
     exact Gives.mk rfl zE
   · simp only [Option.getD_some,Option.isSome_some] at HK HM;by_cases h1:k<0
     · refine fin (v:=.tuple #[.int .i64 0,.int .i64 0,.bool false]) (by rw [hd];simp only;rw [if_neg zo];rfl) ?_;clear hd fin;go_enter func248,ntmps248;go_wp2_with fail;refine (HK.out _).mono ?_;rintro e w1 ⟨rfl,X1,rfl⟩;go_wp2_with fail;refine (HM.out _).mono ?_;rintro e w1 ⟨rfl,X2,rfl⟩;go_wp2_with fail;go_ret3
       exact Gives.mk rfl zE
     by_cases h2:1099511627776<k
     · refine fin (v:=.tuple #[.int .i64 0,.int .i64 0,.bool false]) (by rw [hd];simp only;rw [if_neg zo];rfl) ?_;clear hd fin;go_enter func248,ntmps248;go_wp2_with fail;refine (HK.out _).mono ?_;rintro e w1 ⟨rfl,X1,rfl⟩;go_wp2_with fail;refine (HM.out _).mono ?_;rintro e w1 ⟨rfl,X2,rfl⟩;go_wp2_with fail;go_ret3
       exact Gives.mk rfl zE
     by_cases h3:m<0
     · refine fin (v:=.tuple #[.int .i64 0,.int .i64 0,.bool false]) (by rw [hd];simp only;rw [if_neg zo];rfl) ?_;clear hd fin;go_enter func248,ntmps248;go_wp2_with fail;refine (HK.out _).mono ?_;rintro e w1 ⟨rfl,X1,rfl⟩;go_wp2_with fail;refine (HM.out _).mono ?_;rintro e w1 ⟨rfl,X2,rfl⟩;go_wp2_with fail;go_ret3
       exact Gives.mk rfl zE
     by_cases h4:1099511627776<m
     · refine fin (v:=.tuple #[.int .i64 0,.int .i64 0,.bool false]) (by rw [hd];simp only;rw [if_neg zo];rfl) ?_;clear hd fin;go_enter func248,ntmps248;go_wp2_with fail;refine (HK.out _).mono ?_;rintro e w1 ⟨rfl,X1,rfl⟩;go_wp2_with fail;refine (HM.out _).mono ?_;rintro e w1 ⟨rfl,X2,rfl⟩;go_wp2_with fail;go_ret3
       exact Gives.mk rfl zE
     · refine fin (v:=.tuple #[.int .i64 k,.int .i64 m,.bool true]) (by rw [hd];simp only;rw [if_pos zo];rfl) ?_;have h5:0≤k:=zo;have h6:k≤1099511627776:=zo;have h7:0≤m:=zo;have h8:m≤1099511627776:=zo;clear hd fin h1 h2 h3 h4;go_enter func248,ntmps248;go_wp2_with fail;refine (HK.out _).mono ?_;rintro e w1 ⟨rfl,X1,rfl⟩;go_wp2_with fail;refine (HM.out _).mono ?_;rintro e w1 ⟨rfl,X2,rfl⟩;go_wp2_with fail;go_ret3
       exact Gives.mk rfl zE
end Go.Proofs.YtdhjjpnajjingaaGreat
