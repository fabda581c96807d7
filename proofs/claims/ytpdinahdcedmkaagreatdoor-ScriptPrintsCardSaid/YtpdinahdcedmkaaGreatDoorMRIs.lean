import Derived.Test.YtpdinahdcedmkaaGreatDoorMPName
import Derived.Test.YtpdinahdcedmkaaGreatDoorRVals
/- liveryref06's MayOts, MayLms, MayXmss, Fit and the lengths. -/
namespace Go.Proofs.YtpdinahdcedmkaaGreatDoor.ExtP
open Go.Proofs.YtpdinahdcedmkaaGreatDoor.Ext
set_option linter.unusedVariables false
open Go.RowKit Go.Proofs.YtpdinahdcedmkaaGreatDoorW.PrintWords Go.Proofs.YtpdinahdcedmkaaGreatDoorW.PrintLast Go.Proofs.YtpdinahdcedmkaaGreatDoor.Spec

attribute [local go_sem high] eqOts eqLms eqXms
set_option maxHeartbeats 1000000 in
set_option maxRecDepth 100000 in
theorem r_MayOts (o : OtsR) (w : World) (g0 : 0 ≤ o.code) (g1 : o.code < 4294967296) :
    Calls Tryz.prog 177 #[o.enc] w fun e w' => e = .returned (.bool (isOtsS o)) ∧ Below w.heap.size w w' := by
  have Co := fun w => r_Ots o.code w g0 g1
  unfold isOtsS
  unfold eqO
  generalize hx : ots o.code = x at *
  obtain ⟨⟨a0, a1, a2, a3, a4, a5⟩, er⟩ := x
  have he : er = 0 ∨ er = 60 := by have := ots_err o.code; rw [hx] at this; exact this
  obtain ⟨b0, b1, b2, b3, b4, b5⟩ := o
  simp only [OtsR.enc] at *
  have co := Lib.hid Co; clear Co hx
  rcases he with rfl | rfl
  · rw [if_pos rfl]
    go_enter Tryz.func177, Tryz.ntmps177
    go_wp2_with (first
        | (go_at_call 117; refine (co.out _).mono ?_; rintro e v1 ⟨rfl, hb1⟩; obtain ⟨hc, hf⟩ := bcell hb1; have hz : w.heap.size < v1.heap.size := by (have hz0 := hb1.size; simp at hz0; omega)))
    go_ret
    exact ⟨rfl, (below_box hb1).alloc (below_box hb1).size _⟩
  · rw [if_neg (by decide)]
    go_enter Tryz.func177, Tryz.ntmps177
    go_wp2_with (first
        | (go_at_call 117; refine (co.out _).mono ?_; rintro e v1 ⟨rfl, hb1⟩; obtain ⟨hc, hf⟩ := bcell hb1; have hz : w.heap.size < v1.heap.size := by (have hz0 := hb1.size; simp at hz0; omega)))
    go_ret
    exact ⟨rfl, (below_box hb1).alloc (below_box hb1).size _⟩
set_option maxHeartbeats 1000000 in
set_option maxRecDepth 100000 in
theorem r_MayLms (o : LmsR) (w : World) (g0 : 0 ≤ o.code) (g1 : o.code < 4294967296) :
    Calls Tryz.prog 176 #[o.enc] w fun e w' => e = .returned (.bool (isLmsS o)) ∧ Below w.heap.size w w' := by
  have Co := fun w => r_Lms o.code w g0 g1
  unfold isLmsS
  unfold eqL
  generalize hx : lms o.code = x at *
  obtain ⟨⟨a0, a1, a2, a3⟩, er⟩ := x
  have he : er = 0 ∨ er = 60 := by have := lms_err o.code; rw [hx] at this; exact this
  obtain ⟨b0, b1, b2, b3⟩ := o
  simp only [LmsR.enc] at *
  have co := Lib.hid Co; clear Co hx
  rcases he with rfl | rfl
  · rw [if_pos rfl]
    go_enter Tryz.func176, Tryz.ntmps176
    go_wp2_with (first
        | (go_at_call 118; refine (co.out _).mono ?_; rintro e v1 ⟨rfl, hb1⟩; obtain ⟨hc, hf⟩ := bcell hb1; have hz : w.heap.size < v1.heap.size := by (have hz0 := hb1.size; simp at hz0; omega)))
    go_ret
    exact ⟨rfl, (below_box hb1).alloc (below_box hb1).size _⟩
  · rw [if_neg (by decide)]
    go_enter Tryz.func176, Tryz.ntmps176
    go_wp2_with (first
        | (go_at_call 118; refine (co.out _).mono ?_; rintro e v1 ⟨rfl, hb1⟩; obtain ⟨hc, hf⟩ := bcell hb1; have hz : w.heap.size < v1.heap.size := by (have hz0 := hb1.size; simp at hz0; omega)))
    go_ret
    exact ⟨rfl, (below_box hb1).alloc (below_box hb1).size _⟩
set_option maxHeartbeats 1000000 in
set_option maxRecDepth 100000 in
theorem r_Fit (l : LmsR) (o : OtsR) (w : World) (l0 : 0 ≤ l.code) (l1 : l.code < 4294967296) (g0 : 0 ≤ o.code) (g1 : o.code < 4294967296) :
    Calls Tryz.prog 169 #[l.enc, o.enc] w fun e w' => e = .returned (.bool (fitS l o)) ∧ Below w.heap.size w w' := by
  have Cl := fun w => r_MayLms l w l0 l1
  have Co := fun w => r_MayOts o w g0 g1
  unfold fitS
  obtain ⟨a0, a1, a2, a3⟩ := l
  obtain ⟨b0, b1, b2, b3, b4, b5⟩ := o
  generalize isLmsS _ = p at *
  generalize isOtsS _ = q at *
  simp only [LmsR.enc, OtsR.enc] at *
  have cl := Lib.hid Cl; have co := Lib.hid Co; clear Cl Co
  cases p with
  | false =>
    rw [if_neg (by decide)]
    go_enter Tryz.func169, Tryz.ntmps169
    go_wp2_with (first
        | (go_at_call 176; refine (cl.out _).mono ?_; rintro e v1 ⟨rfl, hb1⟩; obtain ⟨hc, hf⟩ := bcell hb1; have hz : w.heap.size + 1 < v1.heap.size := (by (have hz0 := hb1.size; simp at hz0; omega)); have hzA : w.heap.size < v1.heap.size := by omega)
        | (go_at_call 177; refine (co.out _).mono ?_; rintro e v2 ⟨rfl, hb2⟩; obtain ⟨hc2, hf2⟩ := bcell hb2; have hz2 : w.heap.size + 1 < v2.heap.size := by (have hz0 := hb2.size; omega)))
    go_ret
    exact ⟨rfl, below_box (below_box hb1)⟩
  | true =>
    rw [if_pos rfl]
    cases q with
    | false =>
      rw [if_neg (by decide)]
      go_enter Tryz.func169, Tryz.ntmps169
      go_wp2_with (first
          | (go_at_call 176; refine (cl.out _).mono ?_; rintro e v1 ⟨rfl, hb1⟩; obtain ⟨hc, hf⟩ := bcell hb1; have hz : w.heap.size + 1 < v1.heap.size := (by (have hz0 := hb1.size; simp at hz0; omega)); have hzA : w.heap.size < v1.heap.size := by omega)
          | (go_at_call 177; refine (co.out _).mono ?_; rintro e v2 ⟨rfl, hb2⟩; obtain ⟨hc2, hf2⟩ := bcell hb2; have hz2 : w.heap.size + 1 < v2.heap.size := by (have hz0 := hb2.size; omega)))
      go_ret
      exact ⟨rfl, below_step (below_box (below_box hb1)) hb2⟩
    | true =>
      rw [if_pos rfl]
      cases t : (a1 == b1) with
      | false =>
        rw [if_neg (by decide)]
        go_enter Tryz.func169, Tryz.ntmps169
        go_wp2_with (first
            | (go_at_call 176; refine (cl.out _).mono ?_; rintro e v1 ⟨rfl, hb1⟩; obtain ⟨hc, hf⟩ := bcell hb1; have hz : w.heap.size + 1 < v1.heap.size := (by (have hz0 := hb1.size; simp at hz0; omega)); have hzA : w.heap.size < v1.heap.size := by omega)
            | (go_at_call 177; refine (co.out _).mono ?_; rintro e v2 ⟨rfl, hb2⟩; obtain ⟨hc2, hf2⟩ := bcell hb2; have hz2 : w.heap.size + 1 < v2.heap.size := by (have hz0 := hb2.size; omega)))
        go_ret
        exact ⟨rfl, below_step (below_box (below_box hb1)) hb2⟩
      | true =>
        rw [if_pos rfl]
        go_enter Tryz.func169, Tryz.ntmps169
        go_wp2_with (first
            | (go_at_call 176; refine (cl.out _).mono ?_; rintro e v1 ⟨rfl, hb1⟩; obtain ⟨hc, hf⟩ := bcell hb1; have hz : w.heap.size + 1 < v1.heap.size := (by (have hz0 := hb1.size; simp at hz0; omega)); have hzA : w.heap.size < v1.heap.size := by omega)
            | (go_at_call 177; refine (co.out _).mono ?_; rintro e v2 ⟨rfl, hb2⟩; obtain ⟨hc2, hf2⟩ := bcell hb2; have hz2 : w.heap.size + 1 < v2.heap.size := by (have hz0 := hb2.size; omega)))
        go_ret
        exact ⟨rfl, below_step (below_box (below_box hb1)) hb2⟩
end Go.Proofs.YtpdinahdcedmkaaGreatDoor.ExtP
/- param's and the document's Ots, Lms, Xmss, Fit, for the printer: one specification. -/
namespace Go.Proofs.YtpdinahdcedmkaaGreatDoor.Ext
open Go.RowKit Go.Proofs.YtpdinahdcedmkaaGreatDoorW.PrintWords Go.Proofs.YtpdinahdcedmkaaGreatDoorW.PrintLast Go.Proofs.YtpdinahdcedmkaaGreatDoorW.PrintMore Go.Proofs.YtpdinahdcedmkaaGreatDoor.Spec
def u32B (c : Int) : Prop := 0 ≤ c ∧ c < 4294967296
instance (c : Int) : Decidable (u32B c) := inferInstanceAs (Decidable (_ ∧ _))
def otsF (c : Int) : Option (Int × Bool × Int × Int × Int × Int × Int) := if u32B c then some ((ots c).1.code, (ots c).1.shake, (ots c).1.n, (ots c).1.w, (ots c).1.p, (ots c).1.ls, (ots c).2) else none
def param_Ots.f (a0 : Int) : Option (Int × Bool × Int × Int × Int × Int × Int) := otsF a0
theorem param_Ots.calls (a0 r1 : Int) (r2 : Bool) (r3 r4 r5 r6 r7 : Int) (w : World) (h : param_Ots.f a0 = some (r1, r2, r3, r4, r5, r6, r7)) :
    Calls Tryz.prog 164 #[.int .u32 a0] w fun e w' => e = .returned (.tuple #[.agg #[.int .u32 r1, .bool r2, .int .i64 r3, .int .i64 r4, .int .i64 r5, .int .i64 r6], .int .i64 r7]) ∧ Below w.heap.size w w' := by
  unfold param_Ots.f otsF at h
  by_cases hb : u32B a0
  · rw [if_pos hb] at h
    have h1 := Option.some.inj h
    simp only [Prod.mk.injEq] at h1
    obtain ⟨rfl, rfl, rfl, rfl, rfl, rfl, rfl⟩ := h1
    exact ExtP.c_Ots a0 w hb.1
  · rw [if_neg hb] at h; cases h
end Go.Proofs.YtpdinahdcedmkaaGreatDoor.Ext
