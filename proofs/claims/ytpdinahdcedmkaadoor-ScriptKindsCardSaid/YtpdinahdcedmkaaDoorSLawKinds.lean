/- The example of the chapter holds; law ScriptKinds, for any number. -/
import Derived.Test.YtpdinahdcedmkaaDoorP1101
namespace Go.Proofs.YtpdinahdcedmkaaDoor.Ext
open Go.Proofs.YtpdinahdcedmkaaDoor.P
set_option linter.unusedVariables false
set_option linter.unusedSimpArgs false
open Go.RowKit Go.Proofs.YtpdinahdcedmkaaDoorW.PrintWords Go.Proofs.YtpdinahdcedmkaaDoorW.PrintLast Go.Proofs.YtpdinahdcedmkaaDoorW.PrintMore

theorem kinds_eq (d : Int) : liveryref27_Has.f d = some (rowOf d).2 ∧ liveryref27_Name.f d = some (rowOf d).1 := by
  by_cases hd : 0 ≤ d ∧ d < 18
  · obtain ⟨n, rfl⟩ := Int.eq_ofNat_of_zero_le hd.1
    have key : ∀ n : Fin 18, liveryref27_Has.f ((n.val : Nat) : Int) = some (rowOf ((n.val : Nat) : Int)).2 ∧ liveryref27_Name.f ((n.val : Nat) : Int) = some (rowOf ((n.val : Nat) : Int)).1 := by decide +kernel
    exact key ⟨n, by omega⟩
  · unfold rowOf
    rw [if_neg hd]
    unfold liveryref27_Has.f liveryref27_Name.f
    by_cases h1 : d < 1
    · simp [h1]
    · simp [h1, show d > 17 by omega]
theorem law_Kinds (a0 : Int) (w : World) (hT : Lib.Utf8Tabs 0 1 w) :
    Calls Tryd.prog 3 #[.int .i64 a0] w fun e w' => e = .returned (.bool true) ∧ Below w.heap.size w w' := by
  refine liverylaw27_ScriptKinds.calls a0 true w ?_ ⟨hT⟩
  unfold liverylaw27_ScriptKinds.f
  rw [show liverylaw27_live.f = some true from rfl]
  simp only [Option.bind_some, if_true]
  rw [(kinds_eq a0).1, (kinds_eq a0).2]
  simp [script_Has.f, script_Name.f]
end Go.Proofs.YtpdinahdcedmkaaDoor.Ext
