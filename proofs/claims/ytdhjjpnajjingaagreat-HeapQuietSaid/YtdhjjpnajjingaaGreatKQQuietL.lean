import Derived.Test.YtdhjjpnajjingaaGreatKQ14
import Derived.Test.YtdhjjpnajjingaaGreatKQQuietH
set_option linter.unusedVariables false
set_option linter.unnecessarySimpa false
set_option linter.unusedSimpArgs false
open Bool renaming true→zT,false→zU
open Go.Value renaming int→zI
open Go.IntKind renaming i64→z6
set_option maxHeartbeats 8000000
set_option maxRecDepth 100000
open Go.Proofs.Tryz
open Go.Lib renaming hid→zH
open Go.Ext renaming alloc→zA,patch→zP,drew→zD,drewN→zN,more→zM,refl→zR,setCell→zS
open Nat renaming le_refl→zL,le_add_right→zK
namespace Go.Proofs.YtdhjjpnajjingaaGreat
open Go Go.RowKit
theorem quiet_any (n p:Int) (w:World):Calls prog 5 #[.int .i64 n,.int .i64 p] w (Gives (.bool true) w):=yeA yfN n p w
end Go.Proofs.YtdhjjpnajjingaaGreat
