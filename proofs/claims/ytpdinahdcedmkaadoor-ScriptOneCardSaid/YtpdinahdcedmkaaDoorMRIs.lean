import Derived.Test.YtpdinahdcedmkaaDoorPVals
import Derived.Test.YtpdinahdcedmkaaDoorMPName
/- liveryref06's functions on plain values do what Spec says: bytes, power, bits, up, Ots, own, Lms, Xmss, Is. -/
namespace Go.Proofs.YtpdinahdcedmkaaDoor.ExtP
open Go.Proofs.YtpdinahdcedmkaaDoor.Ext
set_option linter.unusedVariables false
set_option linter.unusedSimpArgs false
open Go.RowKit Go.Proofs.YtpdinahdcedmkaaDoorW.PrintWords Go.Proofs.YtpdinahdcedmkaaDoor.Spec

end Go.Proofs.YtpdinahdcedmkaaDoor.ExtP
/- liveryref06's MayOts, MayLms, MayXmss, Fit and the lengths. -/
namespace Go.Proofs.YtpdinahdcedmkaaDoor.ExtP
open Go.Proofs.YtpdinahdcedmkaaDoor.Ext
set_option linter.unusedVariables false
open Go.RowKit Go.Proofs.YtpdinahdcedmkaaDoorW.PrintWords Go.Proofs.YtpdinahdcedmkaaDoorW.PrintLast Go.Proofs.YtpdinahdcedmkaaDoor.Spec

attribute [local go_sem high] eqOts eqLms eqXms
end Go.Proofs.YtpdinahdcedmkaaDoor.ExtP
/- param's and the document's Ots, Lms, Xmss, Fit, for the printer: one specification. -/
namespace Go.Proofs.YtpdinahdcedmkaaDoor.Ext
open Go.RowKit Go.Proofs.YtpdinahdcedmkaaDoorW.PrintWords Go.Proofs.YtpdinahdcedmkaaDoorW.PrintLast Go.Proofs.YtpdinahdcedmkaaDoorW.PrintMore Go.Proofs.YtpdinahdcedmkaaDoor.Spec
def u32B (c : Int) : Prop := 0 ≤ c ∧ c < 4294967296
instance (c : Int) : Decidable (u32B c) := inferInstanceAs (Decidable (_ ∧ _))
def otsF (c : Int) : Option (Int × Bool × Int × Int × Int × Int × Int) := if u32B c then some ((ots c).1.code, (ots c).1.shake, (ots c).1.n, (ots c).1.w, (ots c).1.p, (ots c).1.ls, (ots c).2) else none
def param_Ots.f (a0 : Int) : Option (Int × Bool × Int × Int × Int × Int × Int) := otsF a0
theorem param_Ots.calls (a0 r1 : Int) (r2 : Bool) (r3 r4 r5 r6 r7 : Int) (w : World) (h : param_Ots.f a0 = some (r1, r2, r3, r4, r5, r6, r7)) :
    Calls Tryd.prog 87 #[.int .u32 a0] w fun e w' => e = .returned (.tuple #[.agg #[.int .u32 r1, .bool r2, .int .i64 r3, .int .i64 r4, .int .i64 r5, .int .i64 r6], .int .i64 r7]) ∧ Below w.heap.size w w' := by
  unfold param_Ots.f otsF at h
  by_cases hb : u32B a0
  · rw [if_pos hb] at h
    have h1 := Option.some.inj h
    simp only [Prod.mk.injEq] at h1
    obtain ⟨rfl, rfl, rfl, rfl, rfl, rfl, rfl⟩ := h1
    exact ExtP.c_Ots a0 w hb.1
  · rw [if_neg hb] at h; cases h
end Go.Proofs.YtpdinahdcedmkaaDoor.Ext
