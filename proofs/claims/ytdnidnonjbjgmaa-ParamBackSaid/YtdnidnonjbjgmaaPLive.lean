/- liverylaw06.live returns true. -/
import Derived.Test.YtdnidnonjbjgmaaPIs
namespace Go.Proofs.Ytdnidnonjbjgmaa.Ext
set_option linter.unusedVariables false
open Go.RowKit Go.Proofs.YtdnidnonjbjgmaaW.PrintWords Go.Proofs.YtdnidnonjbjgmaaW.PrintLast Go.Proofs.Ytdnidnonjbjgmaa.Spec
attribute [local go_sem high] eqOts eqLms eqXms

set_option maxHeartbeats 1000000 in
set_option maxRecDepth 100000 in
theorem c_live (w : World) : Calls Try.prog 9 #[] w fun e w' => e = .returned (.bool true) ∧ Below w.heap.size w w' := by
  have Co : ∀ w, Calls Try.prog 8 #[.int .u32 4] w fun e w' => e = .returned (.tuple #[.agg #[.int .u32 4, .bool false, .int .i64 32, .int .i64 8, .int .i64 34, .int .i64 0], .int .i64 0]) ∧ Below w.heap.size w w' := fun w => c_Ots 4 w (by omega)
  have Cl : ∀ w, Calls Try.prog 10 #[.int .u32 4026531858] w fun e w' => e = .returned (.tuple #[.agg #[.int .u32 4026531858, .bool false, .int .i64 24, .int .i64 2], .int .i64 0]) ∧ Below w.heap.size w w' := fun w => c_Lms 4026531858 w (by omega) (by omega)
  have Cn : ∀ w, Calls Try.prog 32 #[.int .i64 1, .int .u32 5] w fun e w' => e = .returned (.string ⟨#[76, 77, 79, 84, 83, 95, 83, 72, 65, 50, 53, 54, 95, 78, 50, 52, 95, 87, 49]⟩) ∧ Below w.heap.size w w' := fun w => by
    have h := c_Name 1 5 w (by omega) (by omega)
    rw [show nameS 1 5 = ⟨#[76, 77, 79, 84, 83, 95, 83, 72, 65, 50, 53, 54, 95, 78, 50, 52, 95, 87, 49]⟩ by decide +kernel] at h
    exact h
  have co := Lib.hid Co; have cl := Lib.hid Cl; have cn := Lib.hid Cn; clear Co Cl Cn
  go_enter Try.func9, Try.ntmps9
  go_wp2_with (first
    | (go_at_call 8; refine (co.out _).mono ?_; rintro e v1 ⟨rfl, hb1⟩)
    | (go_at_call 10; refine (cl.out _).mono ?_; rintro e v2 ⟨rfl, hb2⟩; obtain ⟨hc2, hf2⟩ := bcell hb2; have hz2 : v1.heap.size < v2.heap.size := (by (have hz0 := hb2.size; simp at hz0; omega)))
    | (go_at_call 32; refine (cn.out _).mono ?_; rintro e v3 ⟨rfl, hb3⟩))
  go_ret
  exact ⟨rfl, below_step hb1 (below_step (below_box hb2) (below_box hb3))⟩
end Go.Proofs.Ytdnidnonjbjgmaa.Ext
