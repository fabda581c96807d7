/- liverylaw06.ParamRoom returns true for every code. -/
import Derived.Test.YtdnidnonjbjgmaaPLive
namespace Go.Proofs.Ytdnidnonjbjgmaa.Ext
set_option linter.unusedVariables false
open Go.RowKit Go.Proofs.YtdnidnonjbjgmaaW.PrintWords Go.Proofs.YtdnidnonjbjgmaaW.PrintLast Go.Proofs.Ytdnidnonjbjgmaa.Spec
attribute [local go_sem high] eqOts eqLms eqXms
set_option maxHeartbeats 2000000 in
set_option maxRecDepth 100000 in
theorem room1 (w : World) : Calls Try.prog 3 #[.int .u32 1] w fun e w' => e = .returned (.bool true) ∧ Below w.heap.size w w' := by
  have Co : ∀ w, Calls Try.prog 8 #[.int .u32 1] w fun e w' => e = .returned (.tuple #[.agg #[.int .u32 1, .bool false, .int .i64 32, .int .i64 1, .int .i64 265, .int .i64 7], .int .i64 0]) ∧ Below w.heap.size w w' := fun w => c_Ots 1 w (by omega)
  have co := Lib.hid Co; clear Co
  go_enter Try.func3, Try.ntmps3
  go_wp2_with (first
    | (go_at_call 8; refine (co.out _).mono ?_; rintro e v1 ⟨rfl, hb1⟩))
  go_quiet (fail)
  go_wp2
  go_quiet (fail)
  go_wp2
  go_ret
  exact ⟨rfl, by repeat (first | (with_reducible assumption) | (with_reducible exact Below.refl _ _) | (with_reducible refine pw_below_drewN ?_ _) | (with_reducible refine Below.setCell ?_ (by simp) _) | (with_reducible refine Below.alloc ?_ (Below.size (by assumption)) _))⟩
set_option maxHeartbeats 2000000 in
set_option maxRecDepth 100000 in
theorem room2 (w : World) : Calls Try.prog 3 #[.int .u32 2] w fun e w' => e = .returned (.bool true) ∧ Below w.heap.size w w' := by
  have Co : ∀ w, Calls Try.prog 8 #[.int .u32 2] w fun e w' => e = .returned (.tuple #[.agg #[.int .u32 2, .bool false, .int .i64 32, .int .i64 2, .int .i64 133, .int .i64 6], .int .i64 0]) ∧ Below w.heap.size w w' := fun w => c_Ots 2 w (by omega)
  have co := Lib.hid Co; clear Co
  go_enter Try.func3, Try.ntmps3
  go_wp2_with (first
    | (go_at_call 8; refine (co.out _).mono ?_; rintro e v1 ⟨rfl, hb1⟩))
  go_quiet (fail)
  go_wp2
  go_quiet (fail)
  go_wp2
  go_ret
  exact ⟨rfl, by repeat (first | (with_reducible assumption) | (with_reducible exact Below.refl _ _) | (with_reducible refine pw_below_drewN ?_ _) | (with_reducible refine Below.setCell ?_ (by simp) _) | (with_reducible refine Below.alloc ?_ (Below.size (by assumption)) _))⟩
set_option maxHeartbeats 2000000 in
set_option maxRecDepth 100000 in
theorem room3 (w : World) : Calls Try.prog 3 #[.int .u32 3] w fun e w' => e = .returned (.bool true) ∧ Below w.heap.size w w' := by
  have Co : ∀ w, Calls Try.prog 8 #[.int .u32 3] w fun e w' => e = .returned (.tuple #[.agg #[.int .u32 3, .bool false, .int .i64 32, .int .i64 4, .int .i64 67, .int .i64 4], .int .i64 0]) ∧ Below w.heap.size w w' := fun w => c_Ots 3 w (by omega)
  have co := Lib.hid Co; clear Co
  go_enter Try.func3, Try.ntmps3
  go_wp2_with (first
    | (go_at_call 8; refine (co.out _).mono ?_; rintro e v1 ⟨rfl, hb1⟩))
  go_quiet (fail)
  go_wp2
  go_quiet (fail)
  go_wp2
  go_ret
  exact ⟨rfl, by repeat (first | (with_reducible assumption) | (with_reducible exact Below.refl _ _) | (with_reducible refine pw_below_drewN ?_ _) | (with_reducible refine Below.setCell ?_ (by simp) _) | (with_reducible refine Below.alloc ?_ (Below.size (by assumption)) _))⟩
set_option maxHeartbeats 2000000 in
set_option maxRecDepth 100000 in
theorem room4 (w : World) : Calls Try.prog 3 #[.int .u32 4] w fun e w' => e = .returned (.bool true) ∧ Below w.heap.size w w' := by
  have Co : ∀ w, Calls Try.prog 8 #[.int .u32 4] w fun e w' => e = .returned (.tuple #[.agg #[.int .u32 4, .bool false, .int .i64 32, .int .i64 8, .int .i64 34, .int .i64 0], .int .i64 0]) ∧ Below w.heap.size w w' := fun w => c_Ots 4 w (by omega)
  have co := Lib.hid Co; clear Co
  go_enter Try.func3, Try.ntmps3
  go_wp2_with (first
    | (go_at_call 8; refine (co.out _).mono ?_; rintro e v1 ⟨rfl, hb1⟩))
  go_quiet (fail)
  go_wp2
  go_quiet (fail)
  go_wp2
  go_ret
  exact ⟨rfl, by repeat (first | (with_reducible assumption) | (with_reducible exact Below.refl _ _) | (with_reducible refine pw_below_drewN ?_ _) | (with_reducible refine Below.setCell ?_ (by simp) _) | (with_reducible refine Below.alloc ?_ (Below.size (by assumption)) _))⟩
set_option maxHeartbeats 2000000 in
set_option maxRecDepth 100000 in
theorem room5 (w : World) : Calls Try.prog 3 #[.int .u32 5] w fun e w' => e = .returned (.bool true) ∧ Below w.heap.size w w' := by
  have Co : ∀ w, Calls Try.prog 8 #[.int .u32 5] w fun e w' => e = .returned (.tuple #[.agg #[.int .u32 5, .bool false, .int .i64 24, .int .i64 1, .int .i64 200, .int .i64 8], .int .i64 0]) ∧ Below w.heap.size w w' := fun w => c_Ots 5 w (by omega)
  have co := Lib.hid Co; clear Co
  go_enter Try.func3, Try.ntmps3
  go_wp2_with (first
    | (go_at_call 8; refine (co.out _).mono ?_; rintro e v1 ⟨rfl, hb1⟩))
  go_quiet (fail)
  go_wp2
  go_quiet (fail)
  go_wp2
  go_ret
  exact ⟨rfl, by repeat (first | (with_reducible assumption) | (with_reducible exact Below.refl _ _) | (with_reducible refine pw_below_drewN ?_ _) | (with_reducible refine Below.setCell ?_ (by simp) _) | (with_reducible refine Below.alloc ?_ (Below.size (by assumption)) _))⟩
set_option maxHeartbeats 2000000 in
set_option maxRecDepth 100000 in
theorem room6 (w : World) : Calls Try.prog 3 #[.int .u32 6] w fun e w' => e = .returned (.bool true) ∧ Below w.heap.size w w' := by
  have Co : ∀ w, Calls Try.prog 8 #[.int .u32 6] w fun e w' => e = .returned (.tuple #[.agg #[.int .u32 6, .bool false, .int .i64 24, .int .i64 2, .int .i64 101, .int .i64 6], .int .i64 0]) ∧ Below w.heap.size w w' := fun w => c_Ots 6 w (by omega)
  have co := Lib.hid Co; clear Co
  go_enter Try.func3, Try.ntmps3
  go_wp2_with (first
    | (go_at_call 8; refine (co.out _).mono ?_; rintro e v1 ⟨rfl, hb1⟩))
  go_quiet (fail)
  go_wp2
  go_quiet (fail)
  go_wp2
  go_ret
  exact ⟨rfl, by repeat (first | (with_reducible assumption) | (with_reducible exact Below.refl _ _) | (with_reducible refine pw_below_drewN ?_ _) | (with_reducible refine Below.setCell ?_ (by simp) _) | (with_reducible refine Below.alloc ?_ (Below.size (by assumption)) _))⟩
set_option maxHeartbeats 2000000 in
set_option maxRecDepth 100000 in
theorem room7 (w : World) : Calls Try.prog 3 #[.int .u32 7] w fun e w' => e = .returned (.bool true) ∧ Below w.heap.size w w' := by
  have Co : ∀ w, Calls Try.prog 8 #[.int .u32 7] w fun e w' => e = .returned (.tuple #[.agg #[.int .u32 7, .bool false, .int .i64 24, .int .i64 4, .int .i64 51, .int .i64 4], .int .i64 0]) ∧ Below w.heap.size w w' := fun w => c_Ots 7 w (by omega)
  have co := Lib.hid Co; clear Co
  go_enter Try.func3, Try.ntmps3
  go_wp2_with (first
    | (go_at_call 8; refine (co.out _).mono ?_; rintro e v1 ⟨rfl, hb1⟩))
  go_quiet (fail)
  go_wp2
  go_quiet (fail)
  go_wp2
  go_ret
  exact ⟨rfl, by repeat (first | (with_reducible assumption) | (with_reducible exact Below.refl _ _) | (with_reducible refine pw_below_drewN ?_ _) | (with_reducible refine Below.setCell ?_ (by simp) _) | (with_reducible refine Below.alloc ?_ (Below.size (by assumption)) _))⟩
set_option maxHeartbeats 2000000 in
set_option maxRecDepth 100000 in
theorem room8 (w : World) : Calls Try.prog 3 #[.int .u32 8] w fun e w' => e = .returned (.bool true) ∧ Below w.heap.size w w' := by
  have Co : ∀ w, Calls Try.prog 8 #[.int .u32 8] w fun e w' => e = .returned (.tuple #[.agg #[.int .u32 8, .bool false, .int .i64 24, .int .i64 8, .int .i64 26, .int .i64 0], .int .i64 0]) ∧ Below w.heap.size w w' := fun w => c_Ots 8 w (by omega)
  have co := Lib.hid Co; clear Co
  go_enter Try.func3, Try.ntmps3
  go_wp2_with (first
    | (go_at_call 8; refine (co.out _).mono ?_; rintro e v1 ⟨rfl, hb1⟩))
  go_quiet (fail)
  go_wp2
  go_quiet (fail)
  go_wp2
  go_ret
  exact ⟨rfl, by repeat (first | (with_reducible assumption) | (with_reducible exact Below.refl _ _) | (with_reducible refine pw_below_drewN ?_ _) | (with_reducible refine Below.setCell ?_ (by simp) _) | (with_reducible refine Below.alloc ?_ (Below.size (by assumption)) _))⟩
set_option maxHeartbeats 2000000 in
set_option maxRecDepth 100000 in
theorem room9 (w : World) : Calls Try.prog 3 #[.int .u32 9] w fun e w' => e = .returned (.bool true) ∧ Below w.heap.size w w' := by
  have Co : ∀ w, Calls Try.prog 8 #[.int .u32 9] w fun e w' => e = .returned (.tuple #[.agg #[.int .u32 9, .bool true, .int .i64 32, .int .i64 1, .int .i64 265, .int .i64 7], .int .i64 0]) ∧ Below w.heap.size w w' := fun w => c_Ots 9 w (by omega)
  have co := Lib.hid Co; clear Co
  go_enter Try.func3, Try.ntmps3
  go_wp2_with (first
    | (go_at_call 8; refine (co.out _).mono ?_; rintro e v1 ⟨rfl, hb1⟩))
  go_quiet (fail)
  go_wp2
  go_quiet (fail)
  go_wp2
  go_ret
  exact ⟨rfl, by repeat (first | (with_reducible assumption) | (with_reducible exact Below.refl _ _) | (with_reducible refine pw_below_drewN ?_ _) | (with_reducible refine Below.setCell ?_ (by simp) _) | (with_reducible refine Below.alloc ?_ (Below.size (by assumption)) _))⟩
set_option maxHeartbeats 2000000 in
set_option maxRecDepth 100000 in
theorem room10 (w : World) : Calls Try.prog 3 #[.int .u32 10] w fun e w' => e = .returned (.bool true) ∧ Below w.heap.size w w' := by
  have Co : ∀ w, Calls Try.prog 8 #[.int .u32 10] w fun e w' => e = .returned (.tuple #[.agg #[.int .u32 10, .bool true, .int .i64 32, .int .i64 2, .int .i64 133, .int .i64 6], .int .i64 0]) ∧ Below w.heap.size w w' := fun w => c_Ots 10 w (by omega)
  have co := Lib.hid Co; clear Co
  go_enter Try.func3, Try.ntmps3
  go_wp2_with (first
    | (go_at_call 8; refine (co.out _).mono ?_; rintro e v1 ⟨rfl, hb1⟩))
  go_quiet (fail)
  go_wp2
  go_quiet (fail)
  go_wp2
  go_ret
  exact ⟨rfl, by repeat (first | (with_reducible assumption) | (with_reducible exact Below.refl _ _) | (with_reducible refine pw_below_drewN ?_ _) | (with_reducible refine Below.setCell ?_ (by simp) _) | (with_reducible refine Below.alloc ?_ (Below.size (by assumption)) _))⟩
set_option maxHeartbeats 2000000 in
set_option maxRecDepth 100000 in
theorem room11 (w : World) : Calls Try.prog 3 #[.int .u32 11] w fun e w' => e = .returned (.bool true) ∧ Below w.heap.size w w' := by
  have Co : ∀ w, Calls Try.prog 8 #[.int .u32 11] w fun e w' => e = .returned (.tuple #[.agg #[.int .u32 11, .bool true, .int .i64 32, .int .i64 4, .int .i64 67, .int .i64 4], .int .i64 0]) ∧ Below w.heap.size w w' := fun w => c_Ots 11 w (by omega)
  have co := Lib.hid Co; clear Co
  go_enter Try.func3, Try.ntmps3
  go_wp2_with (first
    | (go_at_call 8; refine (co.out _).mono ?_; rintro e v1 ⟨rfl, hb1⟩))
  go_quiet (fail)
  go_wp2
  go_quiet (fail)
  go_wp2
  go_ret
  exact ⟨rfl, by repeat (first | (with_reducible assumption) | (with_reducible exact Below.refl _ _) | (with_reducible refine pw_below_drewN ?_ _) | (with_reducible refine Below.setCell ?_ (by simp) _) | (with_reducible refine Below.alloc ?_ (Below.size (by assumption)) _))⟩
set_option maxHeartbeats 2000000 in
set_option maxRecDepth 100000 in
theorem room12 (w : World) : Calls Try.prog 3 #[.int .u32 12] w fun e w' => e = .returned (.bool true) ∧ Below w.heap.size w w' := by
  have Co : ∀ w, Calls Try.prog 8 #[.int .u32 12] w fun e w' => e = .returned (.tuple #[.agg #[.int .u32 12, .bool true, .int .i64 32, .int .i64 8, .int .i64 34, .int .i64 0], .int .i64 0]) ∧ Below w.heap.size w w' := fun w => c_Ots 12 w (by omega)
  have co := Lib.hid Co; clear Co
  go_enter Try.func3, Try.ntmps3
  go_wp2_with (first
    | (go_at_call 8; refine (co.out _).mono ?_; rintro e v1 ⟨rfl, hb1⟩))
  go_quiet (fail)
  go_wp2
  go_quiet (fail)
  go_wp2
  go_ret
  exact ⟨rfl, by repeat (first | (with_reducible assumption) | (with_reducible exact Below.refl _ _) | (with_reducible refine pw_below_drewN ?_ _) | (with_reducible refine Below.setCell ?_ (by simp) _) | (with_reducible refine Below.alloc ?_ (Below.size (by assumption)) _))⟩
set_option maxHeartbeats 2000000 in
set_option maxRecDepth 100000 in
theorem room13 (w : World) : Calls Try.prog 3 #[.int .u32 13] w fun e w' => e = .returned (.bool true) ∧ Below w.heap.size w w' := by
  have Co : ∀ w, Calls Try.prog 8 #[.int .u32 13] w fun e w' => e = .returned (.tuple #[.agg #[.int .u32 13, .bool true, .int .i64 24, .int .i64 1, .int .i64 200, .int .i64 8], .int .i64 0]) ∧ Below w.heap.size w w' := fun w => c_Ots 13 w (by omega)
  have co := Lib.hid Co; clear Co
  go_enter Try.func3, Try.ntmps3
  go_wp2_with (first
    | (go_at_call 8; refine (co.out _).mono ?_; rintro e v1 ⟨rfl, hb1⟩))
  go_quiet (fail)
  go_wp2
  go_quiet (fail)
  go_wp2
  go_ret
  exact ⟨rfl, by repeat (first | (with_reducible assumption) | (with_reducible exact Below.refl _ _) | (with_reducible refine pw_below_drewN ?_ _) | (with_reducible refine Below.setCell ?_ (by simp) _) | (with_reducible refine Below.alloc ?_ (Below.size (by assumption)) _))⟩
set_option maxHeartbeats 2000000 in
set_option maxRecDepth 100000 in
theorem room14 (w : World) : Calls Try.prog 3 #[.int .u32 14] w fun e w' => e = .returned (.bool true) ∧ Below w.heap.size w w' := by
  have Co : ∀ w, Calls Try.prog 8 #[.int .u32 14] w fun e w' => e = .returned (.tuple #[.agg #[.int .u32 14, .bool true, .int .i64 24, .int .i64 2, .int .i64 101, .int .i64 6], .int .i64 0]) ∧ Below w.heap.size w w' := fun w => c_Ots 14 w (by omega)
  have co := Lib.hid Co; clear Co
  go_enter Try.func3, Try.ntmps3
  go_wp2_with (first
    | (go_at_call 8; refine (co.out _).mono ?_; rintro e v1 ⟨rfl, hb1⟩))
  go_quiet (fail)
  go_wp2
  go_quiet (fail)
  go_wp2
  go_ret
  exact ⟨rfl, by repeat (first | (with_reducible assumption) | (with_reducible exact Below.refl _ _) | (with_reducible refine pw_below_drewN ?_ _) | (with_reducible refine Below.setCell ?_ (by simp) _) | (with_reducible refine Below.alloc ?_ (Below.size (by assumption)) _))⟩
set_option maxHeartbeats 2000000 in
set_option maxRecDepth 100000 in
theorem room15 (w : World) : Calls Try.prog 3 #[.int .u32 15] w fun e w' => e = .returned (.bool true) ∧ Below w.heap.size w w' := by
  have Co : ∀ w, Calls Try.prog 8 #[.int .u32 15] w fun e w' => e = .returned (.tuple #[.agg #[.int .u32 15, .bool true, .int .i64 24, .int .i64 4, .int .i64 51, .int .i64 4], .int .i64 0]) ∧ Below w.heap.size w w' := fun w => c_Ots 15 w (by omega)
  have co := Lib.hid Co; clear Co
  go_enter Try.func3, Try.ntmps3
  go_wp2_with (first
    | (go_at_call 8; refine (co.out _).mono ?_; rintro e v1 ⟨rfl, hb1⟩))
  go_quiet (fail)
  go_wp2
  go_quiet (fail)
  go_wp2
  go_ret
  exact ⟨rfl, by repeat (first | (with_reducible assumption) | (with_reducible exact Below.refl _ _) | (with_reducible refine pw_below_drewN ?_ _) | (with_reducible refine Below.setCell ?_ (by simp) _) | (with_reducible refine Below.alloc ?_ (Below.size (by assumption)) _))⟩
set_option maxHeartbeats 2000000 in
set_option maxRecDepth 100000 in
theorem room16 (w : World) : Calls Try.prog 3 #[.int .u32 16] w fun e w' => e = .returned (.bool true) ∧ Below w.heap.size w w' := by
  have Co : ∀ w, Calls Try.prog 8 #[.int .u32 16] w fun e w' => e = .returned (.tuple #[.agg #[.int .u32 16, .bool true, .int .i64 24, .int .i64 8, .int .i64 26, .int .i64 0], .int .i64 0]) ∧ Below w.heap.size w w' := fun w => c_Ots 16 w (by omega)
  have co := Lib.hid Co; clear Co
  go_enter Try.func3, Try.ntmps3
  go_wp2_with (first
    | (go_at_call 8; refine (co.out _).mono ?_; rintro e v1 ⟨rfl, hb1⟩))
  go_quiet (fail)
  go_wp2
  go_quiet (fail)
  go_wp2
  go_ret
  exact ⟨rfl, by repeat (first | (with_reducible assumption) | (with_reducible exact Below.refl _ _) | (with_reducible refine pw_below_drewN ?_ _) | (with_reducible refine Below.setCell ?_ (by simp) _) | (with_reducible refine Below.alloc ?_ (Below.size (by assumption)) _))⟩
set_option maxHeartbeats 2000000 in
set_option maxRecDepth 100000 in
theorem room0 (a : Int) (h0 : 0 ≤ a) (h1 : a < 4294967296) (w : World) (he : ots a = (OtsR.zero, 60)) : Calls Try.prog 3 #[.int .u32 a] w fun e w' => e = .returned (.bool true) ∧ Below w.heap.size w w' := by
  have Co := fun w => c_Ots a w h0
  rw [he] at Co
  simp only [OtsR.zero, OtsR.enc] at Co
  have Cv := c_live
  have co := Lib.hid Co; have cv := Lib.hid Cv; clear Co Cv he
  go_enter Try.func3, Try.ntmps3
  go_wp2_with (first
    | (go_at_call 8; refine (co.out _).mono ?_; rintro e v1 ⟨rfl, hb1⟩)
    | (go_at_call 9; refine (cv.out _).mono ?_; rintro e v2 ⟨rfl, hb2⟩; obtain ⟨hc2, hf2⟩ := bcell hb2; have hz2 : v1.heap.size < v2.heap.size := (by (have hz0 := hb2.size; simp at hz0; omega))))
  go_ret
  exact ⟨rfl, below_step hb1 (below_box hb2)⟩
theorem c_ParamRoom (c : Int) (w : World) (h0 : 0 ≤ c) (g1 : c < 4294967296) :
    Calls Try.prog 3 #[.int .u32 c] w fun e w' => e = .returned (.bool true) ∧ Below w.heap.size w w' := by
  by_cases hb : 16 < c
  · exact room0 c h0 g1 w (by unfold ots; rw [Spec.otsTab_big _ (by omega)])
  · obtain rfl | rfl | rfl | rfl | rfl | rfl | rfl | rfl | rfl | rfl | rfl | rfl | rfl | rfl | rfl | rfl | rfl : c = 0 ∨ c = 1 ∨ c = 2 ∨ c = 3 ∨ c = 4 ∨ c = 5 ∨ c = 6 ∨ c = 7 ∨ c = 8 ∨ c = 9 ∨ c = 10 ∨ c = 11 ∨ c = 12 ∨ c = 13 ∨ c = 14 ∨ c = 15 ∨ c = 16 := by omega
    · exact room0 0 h0 g1 w rfl
    · exact room1 w
    · exact room2 w
    · exact room3 w
    · exact room4 w
    · exact room5 w
    · exact room6 w
    · exact room7 w
    · exact room8 w
    · exact room9 w
    · exact room10 w
    · exact room11 w
    · exact room12 w
    · exact room13 w
    · exact room14 w
    · exact room15 w
    · exact room16 w
end Go.Proofs.Ytdnidnonjbjgmaa.Ext
