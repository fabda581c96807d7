import Derived.Test.YtpdinahdcedmkaaGreatDoorQuote
/- octet.Unhex: the bytes of digits, or the place of the first rune that is none. -/
namespace Go.Proofs.YtpdinahdcedmkaaGreatDoor.Ext
set_option linter.unusedVariables false
open Go.RowKit Go.Proofs.YtpdinahdcedmkaaGreatDoorW.PrintWords Go.Proofs.YtpdinahdcedmkaaGreatDoorW.PrintLast Go.Proofs.YtpdinahdcedmkaaGreatDoorW.PrintMore

end Go.Proofs.YtpdinahdcedmkaaGreatDoor.Ext

