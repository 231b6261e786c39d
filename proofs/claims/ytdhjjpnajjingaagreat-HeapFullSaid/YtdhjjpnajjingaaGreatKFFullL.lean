import Derived.Test.YtdhjjpnajjingaaGreatKF13
import Derived.Test.YtdhjjpnajjingaaGreatKFFullH
set_option linter.unusedVariables false
set_option linter.unnecessarySimpa false
set_option linter.unusedSimpArgs false
open Bool renaming true→zT,false→zU
open Go.Value renaming int→zI,complex→zc,pointer→zp,bool→zb
open Go.IntKind renaming i64→z6
open Go.FloatKind renaming f64→z4
set_option maxHeartbeats 8000000
set_option maxRecDepth 100000
open Go.Proofs.Tryz
open Go.Lib renaming hid→zH
open Go.Ext renaming alloc→zA,patch→zP,drew→zD,drewN→zN,more→zM,refl→zR,setCell→zS
open Nat renaming le_refl→zL,le_add_right→zK
namespace Go.Proofs.YtdhjjpnajjingaaGreat
open Go Go.RowKit
theorem full_any (n:Int) (w:World):Calls prog 6 #[zI z6 n] w (Gives (zb true) w):=yjk ykR n w
end Go.Proofs.YtdhjjpnajjingaaGreat
