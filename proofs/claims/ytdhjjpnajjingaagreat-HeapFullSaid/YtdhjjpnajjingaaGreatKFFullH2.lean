import Derived.Test.YtdhjjpnajjingaaGreatKF13
set_option linter.unusedVariables false
set_option linter.unnecessarySimpa false
set_option linter.unusedSimpArgs false
open Bool renaming true→zT,false→zU
open Go.Value renaming int→zI,complex→zc,pointer→zp,bool→zb
open Go.IntKind renaming i64→z6
open Go.FloatKind renaming f64→z4
set_option maxHeartbeats 8000000
set_option maxRecDepth 100000
open Go.Lib renaming hid→zH
open Go.Ext renaming alloc→zA,patch→zP,drew→zD,drewN→zN,more→zM,refl→zR,setCell→zS
open Nat renaming le_refl→zL,le_add_right→zK
namespace Go.Proofs.YtdhjjpnajjingaaGreat
open Go Go.RowKit
theorem yl5:fullChk 6=fun _ _ _ _=>true:=zQ
theorem yl6:fullChk 7=fun _ _ _ _=>true:=zQ
theorem yl7:fullChk 8=fun _ _ _ _=>true:=zQ
end Go.Proofs.YtdhjjpnajjingaaGreat
