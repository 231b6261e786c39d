import Derived.Test.YtdhjjpnajjingaaGreatKL23
import Derived.Test.YtdhjjpnajjingaaGreatKLListF1
import Derived.Test.YtdhjjpnajjingaaGreatKLListF2
import Derived.Test.YtdhjjpnajjingaaGreatKLListF3
import Derived.Test.YtdhjjpnajjingaaGreatKLListG1
import Derived.Test.YtdhjjpnajjingaaGreatKLListG2
import Derived.Test.YtdhjjpnajjingaaGreatKLListG3
import Derived.Test.YtdhjjpnajjingaaGreatKLListG4
import Derived.Test.YtdhjjpnajjingaaGreatKLListG5
import Derived.Test.YtdhjjpnajjingaaGreatKLListG6
set_option linter.unusedVariables false
set_option linter.unnecessarySimpa false
set_option linter.unusedSimpArgs false
open Bool renaming true→zT,false→zU
open Go.Value renaming int→zI
open Go.IntKind renaming i64→z6
set_option maxHeartbeats 8000000
set_option maxRecDepth 100000
open Go.Lib renaming hid→zH
open Go.Ext renaming alloc→zA,patch→zP,drew→zD,drewN→zN,more→zM,refl→zR,setCell→zS
open Nat renaming le_refl→zL,le_add_right→zK
namespace Go.Proofs.YtdhjjpnajjingaaGreat
open Go Go.RowKit
theorem yla:Its:=fun k hk=>by
 match k,hk with
 |0,_=>exact it_0
 |1,_=>exact it_1
 |2,_=>exact it_2
 |3,_=>exact it_3
 |4,_=>exact it_4
 |5,_=>exact it_5
 |6,_=>exact it_6
 |7,_=>exact it_7
 |8,_=>exact it_8
 |9,_=>exact it_9
 |10,_=>exact ymO
 |11,_=>exact ymP
 |12,_=>exact ymQ
 |13,_=>exact ymR
 |14,_=>exact ymS
 |15,_=>exact ymT
 |16,_=>exact ymU
 |17,_=>exact ymV
 |18,_=>exact ymW
 |19,_=>exact ymX
 |20,_=>exact ymY
 |21,_=>exact ymZ
 |22,_=>exact ym0
 |23,_=>exact ym1
 |24,_=>exact ym2
 |25,_=>exact ym3
 |26,_=>exact ym4
 |27,_=>exact ym5
 |28,_=>exact ym6
 |29,_=>exact ym7
 |30,_=>exact ym8
 |31,_=>exact ym9
 |32,_=>exact yna
 |33,_=>exact ynb
 |34,_=>exact ync
 |35,_=>exact ynd
 |36,_=>exact yne
 |37,_=>exact ynf
 |38,_=>exact yng
 |39,_=>exact ynh
 |40,_=>exact yni
 |41,_=>exact ynj
 |42,_=>exact ynk
 |43,_=>exact ynl
 |44,_=>exact ynm
 |45,_=>exact ynn
 |46,_=>exact yno
 |47,_=>exact ynp
 |48,_=>exact ynq
 |49,_=>exact ynr
 |50,_=>exact yns
 |51,_=>exact ynt
 |52,_=>exact ynu
 |53,_=>exact ynv
 |54,_=>exact ynw
 |55,_=>exact ynx
 |56,_=>exact yny
 |57,_=>exact ynz
 |58,_=>exact ynA
 |59,_=>exact ynB
 |k+60,hk=>omega
theorem yjS (n:Nat) (hn:1≤n∧n≤60) (s:Nat) (A A1 A2:Option Addr):tailOk n (s+1:Nat) A A1 A2=true:=by
 match n,hn with
 |0,hn=>omega
 |1,_=>exact congrFun (congrFun (congrFun (congrFun ymD s) A) A1) A2
 |2,_=>exact congrFun (congrFun (congrFun (congrFun ymE s) A) A1) A2
 |3,_=>exact congrFun (congrFun (congrFun (congrFun ymF s) A) A1) A2
 |4,_=>exact congrFun (congrFun (congrFun (congrFun ymG s) A) A1) A2
 |5,_=>exact congrFun (congrFun (congrFun (congrFun ymH s) A) A1) A2
 |6,_=>exact congrFun (congrFun (congrFun (congrFun ymI s) A) A1) A2
 |7,_=>exact congrFun (congrFun (congrFun (congrFun ymJ s) A) A1) A2
 |8,_=>exact congrFun (congrFun (congrFun (congrFun ymK s) A) A1) A2
 |9,_=>exact congrFun (congrFun (congrFun (congrFun ymL s) A) A1) A2
 |10,_=>exact congrFun (congrFun (congrFun (congrFun ylu s) A) A1) A2
 |11,_=>exact congrFun (congrFun (congrFun (congrFun ylv s) A) A1) A2
 |12,_=>exact congrFun (congrFun (congrFun (congrFun ylw s) A) A1) A2
 |13,_=>exact congrFun (congrFun (congrFun (congrFun ylx s) A) A1) A2
 |14,_=>exact congrFun (congrFun (congrFun (congrFun yly s) A) A1) A2
 |15,_=>exact congrFun (congrFun (congrFun (congrFun ylz s) A) A1) A2
 |16,_=>exact congrFun (congrFun (congrFun (congrFun ylA s) A) A1) A2
 |17,_=>exact congrFun (congrFun (congrFun (congrFun ylB s) A) A1) A2
 |18,_=>exact congrFun (congrFun (congrFun (congrFun ylC s) A) A1) A2
 |19,_=>exact congrFun (congrFun (congrFun (congrFun ylD s) A) A1) A2
 |20,_=>exact congrFun (congrFun (congrFun (congrFun ylE s) A) A1) A2
 |21,_=>exact congrFun (congrFun (congrFun (congrFun ylF s) A) A1) A2
 |22,_=>exact congrFun (congrFun (congrFun (congrFun ylG s) A) A1) A2
 |23,_=>exact congrFun (congrFun (congrFun (congrFun ylH s) A) A1) A2
 |24,_=>exact congrFun (congrFun (congrFun (congrFun ylI s) A) A1) A2
 |25,_=>exact congrFun (congrFun (congrFun (congrFun ylJ s) A) A1) A2
 |26,_=>exact congrFun (congrFun (congrFun (congrFun ylK s) A) A1) A2
 |27,_=>exact congrFun (congrFun (congrFun (congrFun ylL s) A) A1) A2
 |28,_=>exact congrFun (congrFun (congrFun (congrFun ylM s) A) A1) A2
 |29,_=>exact congrFun (congrFun (congrFun (congrFun ylN s) A) A1) A2
 |30,_=>exact congrFun (congrFun (congrFun (congrFun ylO s) A) A1) A2
 |31,_=>exact congrFun (congrFun (congrFun (congrFun ylP s) A) A1) A2
 |32,_=>exact congrFun (congrFun (congrFun (congrFun ylQ s) A) A1) A2
 |33,_=>exact congrFun (congrFun (congrFun (congrFun ylR s) A) A1) A2
 |34,_=>exact congrFun (congrFun (congrFun (congrFun ylS s) A) A1) A2
 |35,_=>exact congrFun (congrFun (congrFun (congrFun ylT s) A) A1) A2
 |36,_=>exact congrFun (congrFun (congrFun (congrFun ylU s) A) A1) A2
 |37,_=>exact congrFun (congrFun (congrFun (congrFun ylV s) A) A1) A2
 |38,_=>exact congrFun (congrFun (congrFun (congrFun ylW s) A) A1) A2
 |39,_=>exact congrFun (congrFun (congrFun (congrFun ylX s) A) A1) A2
 |40,_=>exact congrFun (congrFun (congrFun (congrFun ylY s) A) A1) A2
 |41,_=>exact congrFun (congrFun (congrFun (congrFun ylZ s) A) A1) A2
 |42,_=>exact congrFun (congrFun (congrFun (congrFun yl0 s) A) A1) A2
 |43,_=>exact congrFun (congrFun (congrFun (congrFun yl1 s) A) A1) A2
 |44,_=>exact congrFun (congrFun (congrFun (congrFun yl2 s) A) A1) A2
 |45,_=>exact congrFun (congrFun (congrFun (congrFun yl3 s) A) A1) A2
 |46,_=>exact congrFun (congrFun (congrFun (congrFun yl4 s) A) A1) A2
 |47,_=>exact congrFun (congrFun (congrFun (congrFun yl5 s) A) A1) A2
 |48,_=>exact congrFun (congrFun (congrFun (congrFun yl6 s) A) A1) A2
 |49,_=>exact congrFun (congrFun (congrFun (congrFun yl7 s) A) A1) A2
 |50,_=>exact congrFun (congrFun (congrFun (congrFun yl8 s) A) A1) A2
 |51,_=>exact congrFun (congrFun (congrFun (congrFun yl9 s) A) A1) A2
 |52,_=>exact congrFun (congrFun (congrFun (congrFun yma s) A) A1) A2
 |53,_=>exact congrFun (congrFun (congrFun (congrFun ymb s) A) A1) A2
 |54,_=>exact congrFun (congrFun (congrFun (congrFun ymc s) A) A1) A2
 |55,_=>exact congrFun (congrFun (congrFun (congrFun ymd s) A) A1) A2
 |56,_=>exact congrFun (congrFun (congrFun (congrFun yme s) A) A1) A2
 |57,_=>exact congrFun (congrFun (congrFun (congrFun ymf s) A) A1) A2
 |58,_=>exact congrFun (congrFun (congrFun (congrFun ymg s) A) A1) A2
 |59,_=>exact congrFun (congrFun (congrFun (congrFun ymh s) A) A1) A2
 |60,_=>exact congrFun (congrFun (congrFun (congrFun ymi s) A) A1) A2
 |n+61,hn=>omega
theorem yja (n:Nat) (hn:1≤n∧n≤60) (s:Nat) (A A1 A2:Option Addr): ∃D E F G,ListRun n (listD (opsList n) (s+1:Nat) A A1 A2) D E F G:=ykz yla hn.2 (yjS n hn s A A1 A2)
end Go.Proofs.YtdhjjpnajjingaaGreat
