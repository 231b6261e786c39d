import Derived.Test.YtdhjjpnajjingaaGreatKQ14
import Derived.Test.YtdhjjpnajjingaaGreatKQQuietH1
import Derived.Test.YtdhjjpnajjingaaGreatKQQuietH2
import Derived.Test.YtdhjjpnajjingaaGreatKQQuietH3
import Derived.Test.YtdhjjpnajjingaaGreatKQQuietH4
set_option linter.unusedVariables false
set_option linter.unnecessarySimpa false
set_option linter.unusedSimpArgs false
open Bool renaming true→zT,false→zU
open Go.Value renaming int→zI
open Go.IntKind renaming i64→z6
set_option maxHeartbeats 8000000
set_option maxRecDepth 100000
open Go.Lib renaming hid→zH
open Go.Ext renaming alloc→zA,patch→zP,drew→zD,drewN→zN,more→zM,refl→zR,setCell→zS
open Nat renaming le_refl→zL,le_add_right→zK
namespace Go.Proofs.YtdhjjpnajjingaaGreat
open Go Go.RowKit
theorem yfN (n:Nat) (h:n≤40):quietChk n=fun _ _ _ _=>true:=by
 match n,h with
 |0,_=>exact yhM
 |1,_=>exact yhN
 |2,_=>exact yhO
 |3,_=>exact yhP
 |4,_=>exact yhQ
 |5,_=>exact yhR
 |6,_=>exact yhS
 |7,_=>exact yhT
 |8,_=>exact yhU
 |9,_=>exact yhV
 |10,_=>exact ygU
 |11,_=>exact ygV
 |12,_=>exact ygW
 |13,_=>exact ygX
 |14,_=>exact ygY
 |15,_=>exact ygZ
 |16,_=>exact yg0
 |17,_=>exact yg1
 |18,_=>exact yg2
 |19,_=>exact yg3
 |20,_=>exact yg4
 |21,_=>exact yg5
 |22,_=>exact yg6
 |23,_=>exact yg7
 |24,_=>exact yg8
 |25,_=>exact yg9
 |26,_=>exact yha
 |27,_=>exact yhb
 |28,_=>exact yhc
 |29,_=>exact yhd
 |30,_=>exact yhe
 |31,_=>exact yhf
 |32,_=>exact yhg
 |33,_=>exact yhh
 |34,_=>exact yhi
 |35,_=>exact yhj
 |36,_=>exact yhk
 |37,_=>exact yhl
 |38,_=>exact yhm
 |39,_=>exact yhn
 |40,_=>exact yho
 |n+41,h=>exact absurd h zo
end Go.Proofs.YtdhjjpnajjingaaGreat
