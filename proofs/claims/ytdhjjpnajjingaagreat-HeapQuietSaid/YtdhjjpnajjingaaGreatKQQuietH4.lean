import Derived.Test.YtdhjjpnajjingaaGreatKQ14
set_option linter.unusedVariables false
set_option linter.unnecessarySimpa false
set_option linter.unusedSimpArgs false
open Bool renaming true→zT,false→zU
open Go.Value renaming int→zI
open Go.IntKind renaming i64→z6
set_option maxHeartbeats 8000000
set_option maxRecDepth 100000
open Go.Lib renaming hid→zH
open Go.Ext renaming alloc→zA,patch→zP,drew→zD,drewN→zN,more→zM,refl→zR,setCell→zS
open Nat renaming le_refl→zL,le_add_right→zK
namespace Go.Proofs.YtdhjjpnajjingaaGreat
open Go Go.RowKit
theorem yhj:quietChk 35=fun _ _ _ _=>true:=zQ
theorem yhk:quietChk 36=fun _ _ _ _=>true:=zQ
theorem yhl:quietChk 37=fun _ _ _ _=>true:=zQ
theorem yhm:quietChk 38=fun _ _ _ _=>true:=zQ
theorem yhn:quietChk 39=fun _ _ _ _=>true:=zQ
theorem yho:quietChk 40=fun _ _ _ _=>true:=zQ
end Go.Proofs.YtdhjjpnajjingaaGreat
