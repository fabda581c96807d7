import Derived.Test.YtpdinahdcedmkaaGreatDoorQuote
/- octet.Unhex: the bytes of digits, or the place of the first rune that is none. -/
namespace Go.Proofs.YtpdinahdcedmkaaGreatDoor.Ext
set_option linter.unusedVariables false
open Go.RowKit Go.Proofs.YtpdinahdcedmkaaGreatDoorW.PrintWords Go.Proofs.YtpdinahdcedmkaaGreatDoorW.PrintLast Go.Proofs.YtpdinahdcedmkaaGreatDoorW.PrintMore

/-- digits, two to a byte; an odd one is the high half -/
def pk : List Int → List Int
  | [] => []
  | [a] => [a * 16]
  | a :: b :: t => (a * 16 + b) :: pk t
end Go.Proofs.YtpdinahdcedmkaaGreatDoor.Ext

