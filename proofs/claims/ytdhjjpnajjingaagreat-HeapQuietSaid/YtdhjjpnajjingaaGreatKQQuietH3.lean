import Derived.Test.YtdhjjpnajjingaaGreatKQ14
set_option linter.unusedVariables false
set_option linter.unnecessarySimpa false
set_option linter.unusedSimpArgs false
open Bool renaming true→zT,false→zU
open Go.Value renaming int→zI
open Go.IntKind renaming i64→z6
set_option maxHeartbeats 8000000
set_option maxRecDepth 100000
open Go.Lib renaming hid→zH
open Go.Ext renaming alloc→zA,patch→zP,drew→zD,drewN→zN,more→zM,refl→zR,setCell→zS
open Nat renaming le_refl→zL,le_add_right→zK
namespace Go.Proofs.YtdhjjpnajjingaaGreat
open Go Go.RowKit
theorem yhd:quietChk 29=fun _ _ _ _=>true:=zQ
theorem yhe:quietChk 30=fun _ _ _ _=>true:=zQ
theorem yhf:quietChk 31=fun _ _ _ _=>true:=zQ
theorem yhg:quietChk 32=fun _ _ _ _=>true:=zQ
theorem yhh:quietChk 33=fun _ _ _ _=>true:=zQ
theorem yhi:quietChk 34=fun _ _ _ _=>true:=zQ
end Go.Proofs.YtdhjjpnajjingaaGreat
