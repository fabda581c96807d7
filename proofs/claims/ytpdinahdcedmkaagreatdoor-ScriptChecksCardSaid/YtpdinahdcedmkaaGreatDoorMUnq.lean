import Derived.Test.YtpdinahdcedmkaaGreatDoorMLab
/- octet.taken, octet.Unquote: the text of one in quotes. -/
namespace Go.Proofs.YtpdinahdcedmkaaGreatDoor.Ext
set_option linter.unusedVariables false
open Go.RowKit Go.Proofs.YtpdinahdcedmkaaGreatDoorW.PrintWords Go.Proofs.YtpdinahdcedmkaaGreatDoorW.PrintLast Go.Proofs.YtpdinahdcedmkaaGreatDoorW.PrintMore

end Go.Proofs.YtpdinahdcedmkaaGreatDoor.Ext
/- What octet.Quote has put into quotes octet.Unquote takes out of them. -/
namespace Go.Proofs.YtpdinahdcedmkaaGreatDoor.Ext
set_option linter.unusedVariables false
open Go.RowKit Go.Proofs.YtpdinahdcedmkaaGreatDoorW.PrintWords Go.Proofs.YtpdinahdcedmkaaGreatDoorW.PrintLast Go.Proofs.YtpdinahdcedmkaaGreatDoorW.PrintMore

end Go.Proofs.YtpdinahdcedmkaaGreatDoor.Ext
