import Derived.Test.YtdhjjpnajjingaaGreatKF13
import Derived.Test.YtdhjjpnajjingaaGreatKFFullH1
import Derived.Test.YtdhjjpnajjingaaGreatKFFullH2
set_option linter.unusedVariables false
set_option linter.unnecessarySimpa false
set_option linter.unusedSimpArgs false
open Bool renaming true→zT,false→zU
open Go.Value renaming int→zI,complex→zc,pointer→zp,bool→zb
open Go.IntKind renaming i64→z6
open Go.FloatKind renaming f64→z4
set_option maxHeartbeats 8000000
set_option maxRecDepth 100000
open Go.Lib renaming hid→zH
open Go.Ext renaming alloc→zA,patch→zP,drew→zD,drewN→zN,more→zM,refl→zR,setCell→zS
open Nat renaming le_refl→zL,le_add_right→zK
namespace Go.Proofs.YtdhjjpnajjingaaGreat
open Go Go.RowKit
theorem ykR (n:Nat) (h:2≤n∧n≤8):fullChk n=fun _ _ _ _=>true:=by
 match n,h with
 |2,_=>exact yl1
 |3,_=>exact yl2
 |4,_=>exact yl3
 |5,_=>exact yl4
 |6,_=>exact yl5
 |7,_=>exact yl6
 |8,_=>exact yl7
 |0,h=>exact absurd h.1 zo
 |1,h=>exact absurd h.1 zo
 |n+9,h=>exact absurd h.2 zo
end Go.Proofs.YtdhjjpnajjingaaGreat
