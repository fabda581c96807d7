/- script.keyed, of acts without sets. -/
import Derived.Test.YtpdinahdcedmkaaDoorP0
import Derived.Test.YtpdinahdcedmkaaDoorSPlaced
namespace Go.Proofs.YtpdinahdcedmkaaDoor.Ext
open Go.Proofs.YtpdinahdcedmkaaDoor.P
set_option linter.unusedVariables false
set_option linter.unusedSimpArgs false
open Go.RowKit Go.Proofs.YtpdinahdcedmkaaDoorW.PrintWords Go.Proofs.YtpdinahdcedmkaaDoorW.PrintLast Go.Proofs.YtpdinahdcedmkaaDoorW.PrintMore

def script_keyed.f (k : Nat) (a0_0 : Int) (a0_1 : Int) (a0_2 : Int) (a0_3 : Int) (l0_4 : List (S72)) (a0_5 : Int) (a0_6 : Int) (a0_7 : Int) (a0_8 : Int) (a0_9 : Int) (a0_10 : Int) (l0_11 : List Int) (l0_12 : List Bool) : Option Bool := if hasS a0_0 115 = true then none else some (decide (a0_3 = 0) && (decide (a0_5 = 0) && decide (l0_4.length = 0)))
theorem script_keyed.mono : ∀ a0 a1 a2 a3 a4 a5 a6 a7 a8 a9 a10 a11 a12 k, LeO (script_keyed.f k a0 a1 a2 a3 a4 a5 a6 a7 a8 a9 a10 a11 a12) (script_keyed.f (k + 1) a0 a1 a2 a3 a4 a5 a6 a7 a8 a9 a10 a11 a12) := fun _ _ _ _ _ _ _ _ _ _ _ _ _ _ => LeO.refl _
set_option maxHeartbeats 4000000 in
set_option maxRecDepth 100000 in
theorem script_keyed.calls (k : Nat) (a0_0 : Int) (a0_1 : Int) (a0_2 : Int) (a0_3 : Int) (A0_4 : Option Addr) (c0_4 : Nat) (l0_4 : List (S72)) (a0_5 : Int) (a0_6 : Int) (a0_7 : Int) (a0_8 : Int) (a0_9 : Int) (a0_10 : Int) (A0_11 : Option Addr) (c0_11 : Nat) (l0_11 : List Int) (A0_12 : Option Addr) (c0_12 : Nat) (l0_12 : List Bool) (r : Bool) (w : World) (hr0_4 : Kd.C k72 w A0_4 l0_4.length l0_4) (hc0_4 : l0_4.length ≤ c0_4) (hr0_11 : Kd.C (Kd.int .u8) w A0_11 l0_11.length l0_11) (hc0_11 : l0_11.length ≤ c0_11) (hr0_12 : Kd.C Kd.bool w A0_12 l0_12.length l0_12) (hc0_12 : l0_12.length ≤ c0_12) (h : script_keyed.f k a0_0 a0_1 a0_2 a0_3 l0_4 a0_5 a0_6 a0_7 a0_8 a0_9 a0_10 l0_11 l0_12 = some r) :
    Calls Tryd.prog 34 #[.agg #[.int .i64 a0_0, .int .i64 a0_1, .int .i64 a0_2, .int .i64 a0_3, .slice A0_4 l0_4.length c0_4, .int .u32 a0_5, .int .u32 a0_6, .int .u32 a0_7, .int .u64 a0_8, .int .u64 a0_9, .int .i64 a0_10, .slice A0_11 l0_11.length c0_11, .slice A0_12 l0_12.length c0_12]] w fun e w' => e = .returned (.bool r) ∧ Below w.heap.size w w' := by
  unfold script_keyed.f at h
  by_cases hs : hasS a0_0 115 = true
  · rw [if_pos hs] at h; cases h
  rw [if_neg hs] at h
  obtain rfl := Option.some.inj h
  have ck := Lib.hid (has_f (Bool.eq_false_iff.2 hs))
  clear hs h hr0_4 hr0_11 hr0_12
  generalize l0_4.length = n4 at *
  generalize l0_11.length = n11 at *
  generalize l0_12.length = n12 at *
  go_enter Tryd.func34, Tryd.ntmps34
  have HR0 := Aside0.mk (heap_alloc_new w (.cells #[.int .i64 a0_0, .int .i64 a0_1, .int .i64 a0_2, .int .i64 a0_3, .slice A0_4 n4 c0_4, .int .u32 a0_5, .int .u32 a0_6, .int .u32 a0_7, .int .u64 a0_8, .int .u64 a0_9, .int .i64 a0_10, .slice A0_11 n11 c0_11, .slice A0_12 n12 c0_12] 42))
  have HB0 := Aside0.mk ((Below.refl w.heap.size w).alloc (Nat.le_refl _) (.cells #[.int .i64 a0_0, .int .i64 a0_1, .int .i64 a0_2, .int .i64 a0_3, .slice A0_4 n4 c0_4, .int .u32 a0_5, .int .u32 a0_6, .int .u32 a0_7, .int .u64 a0_8, .int .u64 a0_9, .int .i64 a0_10, .slice A0_11 n11 c0_11, .slice A0_12 n12 c0_12] 42))
  go_wp2_with (first
    | (go_at_call 46
       with_reducible refine (ck.out _).mono ?_
       rintro e v ⟨rfl, hbz⟩
       have HR1 := Aside0.mk (krow HR0.out hbz)
       have HB1 := Aside0.mk (HB0.out.trans (hbz.mono HB0.out.size))
       clear hbz
       have q0_v : v.cell? ⟨w.heap.size, 0, none⟩ = some (.int .i64 a0_0) := blk_cell HR1.out 0
       have q3_v : v.cell? ⟨w.heap.size, 3, none⟩ = some (.int .i64 a0_3) := blk_cell HR1.out 3
       have q4_v : v.cell? ⟨w.heap.size, 4, none⟩ = some (.slice A0_4 n4 c0_4) := blk_cell HR1.out 4
       have q5_v : v.cell? ⟨w.heap.size, 5, none⟩ = some (.int .u32 a0_5) := blk_cell HR1.out 5)
    | fail)
  all_goals
    go_ret
    refine ⟨ret_bool ?_, HB1.out⟩
    refine Bool.eq_iff_iff.2 ?_
    simp only [Bool.and_eq_true, decide_eq_true_eq, beq_iff_eq, Bool.false_eq_true, false_iff]
    omega
end Go.Proofs.YtpdinahdcedmkaaDoor.Ext
