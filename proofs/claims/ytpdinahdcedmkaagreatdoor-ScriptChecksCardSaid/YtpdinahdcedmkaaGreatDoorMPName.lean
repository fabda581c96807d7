import Derived.Test.YtpdinahdcedmkaaGreatDoorPVals
/- param.Name returns the name of a kind and code. -/
namespace Go.Proofs.YtpdinahdcedmkaaGreatDoor.ExtP
open Go.Proofs.YtpdinahdcedmkaaGreatDoor.Ext
set_option linter.unusedVariables false
open Go.RowKit Go.Proofs.YtpdinahdcedmkaaGreatDoorW.PrintWords Go.Proofs.YtpdinahdcedmkaaGreatDoor.Spec

theorem bcell {W w1 : World} (hb : Below W.heap.size W w1) : (∀ b o, b < W.heap.size → w1.cell? ⟨b, o, none⟩ = W.cell? ⟨b, o, none⟩) ∧ (∀ b o, b < W.heap.size → w1.frozen? ⟨b, o, none⟩ = W.frozen? ⟨b, o, none⟩) :=
  ⟨fun b o h => hb.cell (p := ⟨b, o, none⟩) h, fun b o h => hb.frozen (p := ⟨b, o, none⟩) h⟩
end Go.Proofs.YtpdinahdcedmkaaGreatDoor.ExtP
/- param's isOts, isLms, isXmss, Fit and the lengths. -/
namespace Go.Proofs.YtpdinahdcedmkaaGreatDoor.ExtP
open Go.Proofs.YtpdinahdcedmkaaGreatDoor.Ext
set_option linter.unusedVariables false
open Go.RowKit Go.Proofs.YtpdinahdcedmkaaGreatDoorW.PrintWords Go.Proofs.YtpdinahdcedmkaaGreatDoorW.PrintLast Go.Proofs.YtpdinahdcedmkaaGreatDoor.Spec

theorem eqOts (d : Nat) (w : World) (x0 y0 : Int) (x1 y1 : Bool) (x2 y2 : Int) (x3 y3 : Int) (x4 y4 : Int) (x5 y5 : Int) :
    (Op.equalIn (d + 2) 140 (.agg #[.int .u32 x0, .bool x1, .int .i64 x2, .int .i64 x3, .int .i64 x4, .int .i64 x5]) (.agg #[.int .u32 y0, .bool y1, .int .i64 y2, .int .i64 y3, .int .i64 y4, .int .i64 y5])).run Tryz.prog w = .ok (x0 == y0 && (x1 == y1 && (x2 == y2 && (x3 == y3 && (x4 == y4 && (x5 == y5)))))) w := by
  refine eqA_of Tryz.underlying140 (by kernel_rfl) ?_
  refine eqf_cons (by rfl) (by go_simp; rfl) (by go_simp; rfl) (by go_simp) ?_
  refine eqf_cons (by rfl) (by go_simp; rfl) (by go_simp; rfl) (by go_simp) ?_
  refine eqf_cons (by rfl) (by go_simp; rfl) (by go_simp; rfl) (by go_simp) ?_
  refine eqf_cons (by rfl) (by go_simp; rfl) (by go_simp; rfl) (by go_simp) ?_
  refine eqf_cons (by rfl) (by go_simp; rfl) (by go_simp; rfl) (by go_simp) ?_
  exact eqf_last (by rfl) (by go_simp; rfl) (by go_simp; rfl) (by go_simp)
theorem eqLms (d : Nat) (w : World) (x0 y0 : Int) (x1 y1 : Bool) (x2 y2 : Int) (x3 y3 : Int) :
    (Op.equalIn (d + 2) 144 (.agg #[.int .u32 x0, .bool x1, .int .i64 x2, .int .i64 x3]) (.agg #[.int .u32 y0, .bool y1, .int .i64 y2, .int .i64 y3])).run Tryz.prog w = .ok (x0 == y0 && (x1 == y1 && (x2 == y2 && (x3 == y3)))) w := by
  refine eqA_of Tryz.underlying144 (by kernel_rfl) ?_
  refine eqf_cons (by rfl) (by go_simp; rfl) (by go_simp; rfl) (by go_simp) ?_
  refine eqf_cons (by rfl) (by go_simp; rfl) (by go_simp; rfl) (by go_simp) ?_
  refine eqf_cons (by rfl) (by go_simp; rfl) (by go_simp; rfl) (by go_simp) ?_
  exact eqf_last (by rfl) (by go_simp; rfl) (by go_simp; rfl) (by go_simp)
theorem eqXms (d : Nat) (w : World) (x0 y0 : Int) (x1 y1 : Bool) (x2 y2 : Int) (x3 y3 : Int) (x4 y4 : Int) :
    (Op.equalIn (d + 2) 128 (.agg #[.int .u32 x0, .bool x1, .int .i64 x2, .int .i64 x3, .int .i64 x4]) (.agg #[.int .u32 y0, .bool y1, .int .i64 y2, .int .i64 y3, .int .i64 y4])).run Tryz.prog w = .ok (x0 == y0 && (x1 == y1 && (x2 == y2 && (x3 == y3 && (x4 == y4))))) w := by
  refine eqA_of Tryz.underlying128 (by kernel_rfl) ?_
  refine eqf_cons (by rfl) (by go_simp; rfl) (by go_simp; rfl) (by go_simp) ?_
  refine eqf_cons (by rfl) (by go_simp; rfl) (by go_simp; rfl) (by go_simp) ?_
  refine eqf_cons (by rfl) (by go_simp; rfl) (by go_simp; rfl) (by go_simp) ?_
  refine eqf_cons (by rfl) (by go_simp; rfl) (by go_simp; rfl) (by go_simp) ?_
  exact eqf_last (by rfl) (by go_simp; rfl) (by go_simp; rfl) (by go_simp)
attribute [local go_sem high] eqOts eqLms eqXms

def eqO (x o : OtsR) : Bool := x.code == o.code && (x.shake == o.shake && (x.n == o.n && (x.w == o.w && (x.p == o.p && (x.ls == o.ls)))))
def eqL (x o : LmsR) : Bool := x.code == o.code && (x.shake == o.shake && (x.n == o.n && (x.h == o.h)))
def isOtsS (o : OtsR) : Bool := if (ots o.code).2 = 0 then eqO (ots o.code).1 o else false
def isLmsS (o : LmsR) : Bool := if (lms o.code).2 = 0 then eqL (lms o.code).1 o else false
def fitS (l : LmsR) (o : OtsR) : Bool := if isLmsS l = true then if isOtsS o = true then if (l.shake == o.shake) = true then l.n == o.n else false else false else false
theorem below_box {w v : World} {o : Obj} (h : Below (w.alloc o).heap.size (w.alloc o) v) : Below w.heap.size w v := ((Below.refl _ _).alloc (Nat.le_refl _) _).trans (h.mono (by simp))
set_option maxHeartbeats 1000000 in
set_option maxRecDepth 100000 in
theorem c_isOts (o : OtsR) (w : World) (g0 : 0 ≤ o.code) (g1 : o.code < 4294967296) :
    Calls Tryz.prog 175 #[o.enc] w fun e w' => e = .returned (.bool (isOtsS o)) ∧ Below w.heap.size w w' := by
  have Co := fun w => c_Ots o.code w g0
  unfold isOtsS
  unfold eqO
  generalize hx : ots o.code = x at *
  obtain ⟨⟨a0, a1, a2, a3, a4, a5⟩, er⟩ := x
  have he : er = 0 ∨ er = 60 := by have := ots_err o.code; rw [hx] at this; exact this
  obtain ⟨b0, b1, b2, b3, b4, b5⟩ := o
  simp only [OtsR.enc] at *
  have co := Lib.hid Co; clear Co hx
  rcases he with rfl | rfl
  · rw [if_pos rfl]
    go_enter Tryz.func175, Tryz.ntmps175
    go_wp2_with (first
        | (go_at_call 164; refine (co.out _).mono ?_; rintro e v1 ⟨rfl, hb1⟩; obtain ⟨hc, hf⟩ := bcell hb1; have hz : w.heap.size < v1.heap.size := by (have hz0 := hb1.size; simp at hz0; omega)))
    go_ret
    exact ⟨rfl, (below_box hb1).alloc (below_box hb1).size _⟩
  · rw [if_neg (by decide)]
    go_enter Tryz.func175, Tryz.ntmps175
    go_wp2_with (first
        | (go_at_call 164; refine (co.out _).mono ?_; rintro e v1 ⟨rfl, hb1⟩; obtain ⟨hc, hf⟩ := bcell hb1; have hz : w.heap.size < v1.heap.size := by (have hz0 := hb1.size; simp at hz0; omega)))
    go_ret
    exact ⟨rfl, (below_box hb1).alloc (below_box hb1).size _⟩
set_option maxHeartbeats 1000000 in
set_option maxRecDepth 100000 in
theorem c_isLms (o : LmsR) (w : World) (g0 : 0 ≤ o.code) (g1 : o.code < 4294967296) :
    Calls Tryz.prog 174 #[o.enc] w fun e w' => e = .returned (.bool (isLmsS o)) ∧ Below w.heap.size w w' := by
  have Co := fun w => c_Lms o.code w g0 g1
  unfold isLmsS
  unfold eqL
  generalize hx : lms o.code = x at *
  obtain ⟨⟨a0, a1, a2, a3⟩, er⟩ := x
  have he : er = 0 ∨ er = 60 := by have := lms_err o.code; rw [hx] at this; exact this
  obtain ⟨b0, b1, b2, b3⟩ := o
  simp only [LmsR.enc] at *
  have co := Lib.hid Co; clear Co hx
  rcases he with rfl | rfl
  · rw [if_pos rfl]
    go_enter Tryz.func174, Tryz.ntmps174
    go_wp2_with (first
        | (go_at_call 163; refine (co.out _).mono ?_; rintro e v1 ⟨rfl, hb1⟩; obtain ⟨hc, hf⟩ := bcell hb1; have hz : w.heap.size < v1.heap.size := by (have hz0 := hb1.size; simp at hz0; omega)))
    go_ret
    exact ⟨rfl, (below_box hb1).alloc (below_box hb1).size _⟩
  · rw [if_neg (by decide)]
    go_enter Tryz.func174, Tryz.ntmps174
    go_wp2_with (first
        | (go_at_call 163; refine (co.out _).mono ?_; rintro e v1 ⟨rfl, hb1⟩; obtain ⟨hc, hf⟩ := bcell hb1; have hz : w.heap.size < v1.heap.size := by (have hz0 := hb1.size; simp at hz0; omega)))
    go_ret
    exact ⟨rfl, (below_box hb1).alloc (below_box hb1).size _⟩
set_option maxHeartbeats 1000000 in
set_option maxRecDepth 100000 in
theorem c_Fit (l : LmsR) (o : OtsR) (w : World) (l0 : 0 ≤ l.code) (l1 : l.code < 4294967296) (g0 : 0 ≤ o.code) (g1 : o.code < 4294967296) :
    Calls Tryz.prog 165 #[l.enc, o.enc] w fun e w' => e = .returned (.bool (fitS l o)) ∧ Below w.heap.size w w' := by
  have Cl := fun w => c_isLms l w l0 l1
  have Co := fun w => c_isOts o w g0 g1
  unfold fitS
  obtain ⟨a0, a1, a2, a3⟩ := l
  obtain ⟨b0, b1, b2, b3, b4, b5⟩ := o
  generalize isLmsS _ = p at *
  generalize isOtsS _ = q at *
  simp only [LmsR.enc, OtsR.enc] at *
  have cl := Lib.hid Cl; have co := Lib.hid Co; clear Cl Co
  cases p with
  | false =>
    rw [if_neg (by decide)]
    go_enter Tryz.func165, Tryz.ntmps165
    go_wp2_with (first
        | (go_at_call 174; refine (cl.out _).mono ?_; rintro e v1 ⟨rfl, hb1⟩; obtain ⟨hc, hf⟩ := bcell hb1; have hz : w.heap.size + 1 < v1.heap.size := (by (have hz0 := hb1.size; simp at hz0; omega)); have hzA : w.heap.size < v1.heap.size := by omega)
        | (go_at_call 175; refine (co.out _).mono ?_; rintro e v2 ⟨rfl, hb2⟩; obtain ⟨hc2, hf2⟩ := bcell hb2; have hz2 : w.heap.size + 1 < v2.heap.size := by (have hz0 := hb2.size; omega)))
    go_ret
    exact ⟨rfl, below_box (below_box hb1)⟩
  | true =>
    rw [if_pos rfl]
    cases q with
    | false =>
      rw [if_neg (by decide)]
      go_enter Tryz.func165, Tryz.ntmps165
      go_wp2_with (first
          | (go_at_call 174; refine (cl.out _).mono ?_; rintro e v1 ⟨rfl, hb1⟩; obtain ⟨hc, hf⟩ := bcell hb1; have hz : w.heap.size + 1 < v1.heap.size := (by (have hz0 := hb1.size; simp at hz0; omega)); have hzA : w.heap.size < v1.heap.size := by omega)
          | (go_at_call 175; refine (co.out _).mono ?_; rintro e v2 ⟨rfl, hb2⟩; obtain ⟨hc2, hf2⟩ := bcell hb2; have hz2 : w.heap.size + 1 < v2.heap.size := by (have hz0 := hb2.size; omega)))
      go_ret
      exact ⟨rfl, below_step (below_box (below_box hb1)) hb2⟩
    | true =>
      rw [if_pos rfl]
      cases t : (a1 == b1) with
      | false =>
        rw [if_neg (by decide)]
        go_enter Tryz.func165, Tryz.ntmps165
        go_wp2_with (first
            | (go_at_call 174; refine (cl.out _).mono ?_; rintro e v1 ⟨rfl, hb1⟩; obtain ⟨hc, hf⟩ := bcell hb1; have hz : w.heap.size + 1 < v1.heap.size := (by (have hz0 := hb1.size; simp at hz0; omega)); have hzA : w.heap.size < v1.heap.size := by omega)
            | (go_at_call 175; refine (co.out _).mono ?_; rintro e v2 ⟨rfl, hb2⟩; obtain ⟨hc2, hf2⟩ := bcell hb2; have hz2 : w.heap.size + 1 < v2.heap.size := by (have hz0 := hb2.size; omega)))
        go_ret
        exact ⟨rfl, below_step (below_box (below_box hb1)) hb2⟩
      | true =>
        rw [if_pos rfl]
        go_enter Tryz.func165, Tryz.ntmps165
        go_wp2_with (first
            | (go_at_call 174; refine (cl.out _).mono ?_; rintro e v1 ⟨rfl, hb1⟩; obtain ⟨hc, hf⟩ := bcell hb1; have hz : w.heap.size + 1 < v1.heap.size := (by (have hz0 := hb1.size; simp at hz0; omega)); have hzA : w.heap.size < v1.heap.size := by omega)
            | (go_at_call 175; refine (co.out _).mono ?_; rintro e v2 ⟨rfl, hb2⟩; obtain ⟨hc2, hf2⟩ := bcell hb2; have hz2 : w.heap.size + 1 < v2.heap.size := by (have hz0 := hb2.size; omega)))
        go_ret
        exact ⟨rfl, below_step (below_box (below_box hb1)) hb2⟩
end Go.Proofs.YtpdinahdcedmkaaGreatDoor.ExtP
