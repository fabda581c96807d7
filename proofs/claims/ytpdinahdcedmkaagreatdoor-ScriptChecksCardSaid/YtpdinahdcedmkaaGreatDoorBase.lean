import Derived.Test.YtpdinahdcedmkaaGreatDoorProg
import Derived.Below
import Derived.Deep.Draws
import Derived.Deep.AppendLies
import Derived.Maps.AppendAt
import Derived.OwnWalk
import Derived.Laws.BytesArg
import Derived.Laws.MakeOwn
import Derived.Laws.OwnMore
import Derived.Deep.OwnRows
import Derived.Tactics
import Derived.Lib.ConvBytes
import Derived.Laws.Slices
import Derived.WalkKit
import Derived.KernelRfl
import Derived.RowKit3
import Derived.Deep.LoopGhost
import Derived.Deep.QuietTactic
import Derived.BigQuiet
import Derived.WideLaws
import Derived.Deep.DeepCutAuto
import Derived.Deep.CutBlock
import Derived.Deep.RegionHeld3
import Derived.Laws.Rows
import Derived.Lib.AppendStr
import Derived.ArgAppend
import Derived.Laws.IdiomCopy
import Derived.OrdersHeld
import Derived.Laws.BitsLemmas
import Derived.RowKit
import Derived.Test.YtpdinahdcedmkaaGreatDoorWWords
import Derived.Test.YtpdinahdcedmkaaGreatDoorWRest
/- What every text of this seat's proofs imports: the program, the walk's library, the words. -/
namespace Go.Proofs.YtpdinahdcedmkaaGreatDoorW.PrintWords
open Go.RowKit
set_option linter.unusedVariables false
end Go.Proofs.YtpdinahdcedmkaaGreatDoorW.PrintWords

