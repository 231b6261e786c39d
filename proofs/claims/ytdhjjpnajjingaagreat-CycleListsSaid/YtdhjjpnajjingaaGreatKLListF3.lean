import Derived.Test.YtdhjjpnajjingaaGreatKL23
set_option linter.unusedVariables false
set_option linter.unnecessarySimpa false
set_option linter.unusedSimpArgs false
open Bool renaming true→zT,false→zU
open Go.Value renaming int→zI
open Go.IntKind renaming i64→z6
set_option maxHeartbeats 8000000
set_option maxRecDepth 100000
open Go.Lib renaming hid→zH
open Go.Ext renaming alloc→zA,patch→zP,drew→zD,drewN→zN,more→zM,refl→zR,setCell→zS
open Nat renaming le_refl→zL,le_add_right→zK
namespace Go.Proofs.YtdhjjpnajjingaaGreat
open Go Go.RowKit
theorem yni:itChk 40=itWant 40:=zQ
theorem ynj:itChk 41=itWant 41:=zQ
theorem ynk:itChk 42=itWant 42:=zQ
theorem ynl:itChk 43=itWant 43:=zQ
theorem ynm:itChk 44=itWant 44:=zQ
theorem ynn:itChk 45=itWant 45:=zQ
theorem yno:itChk 46=itWant 46:=zQ
theorem ynp:itChk 47=itWant 47:=zQ
theorem ynq:itChk 48=itWant 48:=zQ
theorem ynr:itChk 49=itWant 49:=zQ
theorem yns:itChk 50=itWant 50:=zQ
theorem ynt:itChk 51=itWant 51:=zQ
theorem ynu:itChk 52=itWant 52:=zQ
theorem ynv:itChk 53=itWant 53:=zQ
theorem ynw:itChk 54=itWant 54:=zQ
theorem ynx:itChk 55=itWant 55:=zQ
theorem yny:itChk 56=itWant 56:=zQ
theorem ynz:itChk 57=itWant 57:=zQ
theorem ynA:itChk 58=itWant 58:=zQ
theorem ynB:itChk 59=itWant 59:=zQ
end Go.Proofs.YtdhjjpnajjingaaGreat
