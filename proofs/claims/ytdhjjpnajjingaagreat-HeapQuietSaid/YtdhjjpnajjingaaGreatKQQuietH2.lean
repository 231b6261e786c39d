import Derived.Test.YtdhjjpnajjingaaGreatKQ14
set_option linter.unusedVariables false
set_option linter.unnecessarySimpa false
set_option linter.unusedSimpArgs false
open Bool renaming true→zT,false→zU
open Go.Value renaming int→zI
open Go.IntKind renaming i64→z6
set_option maxHeartbeats 8000000
set_option maxRecDepth 100000
open Go.Lib renaming hid→zH
open Go.Ext renaming alloc→zA,patch→zP,drew→zD,drewN→zN,more→zM,refl→zR,setCell→zS
open Nat renaming le_refl→zL,le_add_right→zK
namespace Go.Proofs.YtdhjjpnajjingaaGreat
open Go Go.RowKit
theorem yg4:quietChk 20=fun _ _ _ _=>true:=zQ
theorem yg5:quietChk 21=fun _ _ _ _=>true:=zQ
theorem yg6:quietChk 22=fun _ _ _ _=>true:=zQ
theorem yg7:quietChk 23=fun _ _ _ _=>true:=zQ
theorem yg8:quietChk 24=fun _ _ _ _=>true:=zQ
theorem yg9:quietChk 25=fun _ _ _ _=>true:=zQ
theorem yha:quietChk 26=fun _ _ _ _=>true:=zQ
theorem yhb:quietChk 27=fun _ _ _ _=>true:=zQ
theorem yhc:quietChk 28=fun _ _ _ _=>true:=zQ
end Go.Proofs.YtdhjjpnajjingaaGreat
