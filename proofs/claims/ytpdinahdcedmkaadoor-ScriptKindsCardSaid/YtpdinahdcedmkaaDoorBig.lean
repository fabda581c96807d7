/- octet.big: a number in so many bytes, at most eight, the highest first. -/
import Derived.Test.YtpdinahdcedmkaaDoorRunes
namespace Go.Proofs.YtpdinahdcedmkaaDoor.Ext
set_option linter.unusedVariables false
open Go.RowKit Go.Proofs.YtpdinahdcedmkaaDoorW.PrintWords Go.Proofs.YtpdinahdcedmkaaDoorW.PrintLast Go.Proofs.YtpdinahdcedmkaaDoorW.PrintMore

theorem info_u8 : (Tryd.prog.info? 5).map (fun i => (i.zero, i.size, i.bytes)) = some (some (.int .u8 0), 1, 1) := by kernel_rfl
def bigE (a n j : Nat) : Int := ((a / 2 ^ (8 * (n - 1 - j)) % 256 : Nat) : Int)
end Go.Proofs.YtpdinahdcedmkaaDoor.Ext
