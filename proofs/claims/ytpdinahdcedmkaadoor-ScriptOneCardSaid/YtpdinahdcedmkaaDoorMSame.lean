import Derived.Test.YtpdinahdcedmkaaDoorMHex
import Derived.Test.YtpdinahdcedmkaaDoorP1
import Derived.Laws.BitsLemmas
import Derived.Test.YtpdinahdcedmkaaDoorMSayS
import Derived.Test.YtpdinahdcedmkaaDoorMCheck
import Derived.Laws.CopyOwn
/- octet.Same, plainly (lines of XXors and XBits). -/
namespace Go.Proofs.YtpdinahdcedmkaaDoor.Ext
open Go.Proofs.YtpdinahdcedmkaaDoor.P
set_option linter.unusedVariables false
open Go.RowKit Go.Proofs.YtpdinahdcedmkaaDoorW.PrintWords Go.Proofs.YtpdinahdcedmkaaDoorW.PrintLast Go.Proofs.YtpdinahdcedmkaaDoorW.PrintMore

end Go.Proofs.YtpdinahdcedmkaaDoor.Ext
/- script.sameAct, slices.EqualFunc of acts, script.Same. -/
namespace Go.Proofs.YtpdinahdcedmkaaDoor.Ext
open Go.Proofs.YtpdinahdcedmkaaDoor.P
set_option linter.unusedVariables false
set_option linter.unusedSimpArgs false
open Go.RowKit Go.Proofs.YtpdinahdcedmkaaDoorW.PrintWords Go.Proofs.YtpdinahdcedmkaaDoorW.PrintLast Go.Proofs.YtpdinahdcedmkaaDoorW.PrintMore

def sameA (x y : Act) : Bool := x.f0 == y.f0 && (x.f1 == y.f1 && (x.f2 == y.f2 && (x.f3 == y.f3 && (x.f5 == y.f5 && (x.f6 == y.f6 && (x.f7 == y.f7 && ((x.f8.f0 == y.f8.f0 && x.f8.f1 == y.f8.f1) && (x.f9 == y.f9 && (decide (x.f10 = y.f10) && (eqBy lvq x.f4 y.f4 && eqBy boq x.f11 y.f11))))))))))
def plainA (x y : Act) : Bool := x.f0 == y.f0 && (x.f1 == y.f1 && (x.f2 == y.f2 && (x.f3 == y.f3 && (x.f5 == y.f5 && (x.f6 == y.f6 && (x.f7 == y.f7 && ((x.f8.f0 == y.f8.f0 && x.f8.f1 == y.f8.f1) && x.f9 == y.f9)))))))
theorem sameA_parts (x y : Act) : sameA x y = (plainA x y && (decide (x.f10 = y.f10) && (eqBy lvq x.f4 y.f4 && eqBy boq x.f11 y.f11))) := by unfold sameA plainA; simp only [Bool.and_assoc]
/-- an act's bytes are bytes, and not too many -/
def DataBd (x : Act) : Prop := Bytes x.f10 ∧ x.f10.length ≤ 1048576
attribute [local go_sem high] eqRg
end Go.Proofs.YtpdinahdcedmkaaDoor.Ext
