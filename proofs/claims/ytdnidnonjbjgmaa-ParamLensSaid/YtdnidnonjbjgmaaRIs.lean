/- liveryref06's MayOts, MayLms, MayXmss, Fit and the lengths. -/
import Derived.Test.YtdnidnonjbjgmaaPIs
import Derived.Test.YtdnidnonjbjgmaaRVals
namespace Go.Proofs.Ytdnidnonjbjgmaa.Ext
set_option linter.unusedVariables false
open Go.RowKit Go.Proofs.YtdnidnonjbjgmaaW.PrintWords Go.Proofs.YtdnidnonjbjgmaaW.PrintLast Go.Proofs.Ytdnidnonjbjgmaa.Spec

attribute [local go_sem high] eqOts eqLms eqXms
set_option maxHeartbeats 1000000 in
set_option maxRecDepth 100000 in
theorem r_MayOts (o : OtsR) (w : World) (g0 : 0 ≤ o.code) (g1 : o.code < 4294967296) :
    Calls Try.prog 52 #[o.enc] w fun e w' => e = .returned (.bool (isOtsS o)) ∧ Below w.heap.size w w' := by
  have Co := fun w => r_Ots o.code w g0 g1
  unfold isOtsS
  unfold eqO
  generalize hx : ots o.code = x at *
  obtain ⟨⟨a0, a1, a2, a3, a4, a5⟩, er⟩ := x
  have he : er = 0 ∨ er = 60 := by have := ots_err o.code; rw [hx] at this; exact this
  obtain ⟨b0, b1, b2, b3, b4, b5⟩ := o
  simp only [OtsR.enc] at *
  have co := Lib.hid Co; clear Co hx
  rcases he with rfl | rfl
  · rw [if_pos rfl]
    go_enter Try.func52, Try.ntmps52
    go_wp2_with (first
        | (go_at_call 12; refine (co.out _).mono ?_; rintro e v1 ⟨rfl, hb1⟩; obtain ⟨hc, hf⟩ := bcell hb1; have hz : w.heap.size < v1.heap.size := by (have hz0 := hb1.size; simp at hz0; omega)))
    go_ret
    exact ⟨rfl, (below_box hb1).alloc (below_box hb1).size _⟩
  · rw [if_neg (by decide)]
    go_enter Try.func52, Try.ntmps52
    go_wp2_with (first
        | (go_at_call 12; refine (co.out _).mono ?_; rintro e v1 ⟨rfl, hb1⟩; obtain ⟨hc, hf⟩ := bcell hb1; have hz : w.heap.size < v1.heap.size := by (have hz0 := hb1.size; simp at hz0; omega)))
    go_ret
    exact ⟨rfl, (below_box hb1).alloc (below_box hb1).size _⟩
set_option maxHeartbeats 1000000 in
set_option maxRecDepth 100000 in
theorem r_MayLms (o : LmsR) (w : World) (g0 : 0 ≤ o.code) (g1 : o.code < 4294967296) :
    Calls Try.prog 51 #[o.enc] w fun e w' => e = .returned (.bool (isLmsS o)) ∧ Below w.heap.size w w' := by
  have Co := fun w => r_Lms o.code w g0 g1
  unfold isLmsS
  unfold eqL
  generalize hx : lms o.code = x at *
  obtain ⟨⟨a0, a1, a2, a3⟩, er⟩ := x
  have he : er = 0 ∨ er = 60 := by have := lms_err o.code; rw [hx] at this; exact this
  obtain ⟨b0, b1, b2, b3⟩ := o
  simp only [LmsR.enc] at *
  have co := Lib.hid Co; clear Co hx
  rcases he with rfl | rfl
  · rw [if_pos rfl]
    go_enter Try.func51, Try.ntmps51
    go_wp2_with (first
        | (go_at_call 13; refine (co.out _).mono ?_; rintro e v1 ⟨rfl, hb1⟩; obtain ⟨hc, hf⟩ := bcell hb1; have hz : w.heap.size < v1.heap.size := by (have hz0 := hb1.size; simp at hz0; omega)))
    go_ret
    exact ⟨rfl, (below_box hb1).alloc (below_box hb1).size _⟩
  · rw [if_neg (by decide)]
    go_enter Try.func51, Try.ntmps51
    go_wp2_with (first
        | (go_at_call 13; refine (co.out _).mono ?_; rintro e v1 ⟨rfl, hb1⟩; obtain ⟨hc, hf⟩ := bcell hb1; have hz : w.heap.size < v1.heap.size := by (have hz0 := hb1.size; simp at hz0; omega)))
    go_ret
    exact ⟨rfl, (below_box hb1).alloc (below_box hb1).size _⟩
set_option maxHeartbeats 1000000 in
set_option maxRecDepth 100000 in
theorem r_MayXmss (o : XmsR) (w : World) (g0 : 0 ≤ o.code) (g1 : o.code < 4294967296) :
    Calls Try.prog 54 #[o.enc] w fun e w' => e = .returned (.bool (isXmsS o)) ∧ Below w.heap.size w w' := by
  have Co := fun w => r_Xmss o.code w g0 g1
  unfold isXmsS
  rw [eqX_comm]
  unfold eqX
  generalize hx : xms o.code = x at *
  obtain ⟨⟨a0, a1, a2, a3, a4⟩, er⟩ := x
  have he : er = 0 ∨ er = 60 := by have := xms_err o.code; rw [hx] at this; exact this
  obtain ⟨b0, b1, b2, b3, b4⟩ := o
  simp only [XmsR.enc] at *
  have co := Lib.hid Co; clear Co hx
  rcases he with rfl | rfl
  · rw [if_pos rfl]
    go_enter Try.func54, Try.ntmps54
    go_wp2_with (first
        | (go_at_call 14; refine (co.out _).mono ?_; rintro e v1 ⟨rfl, hb1⟩; obtain ⟨hc, hf⟩ := bcell hb1; have hz : w.heap.size < v1.heap.size := by (have hz0 := hb1.size; simp at hz0; omega)))
    go_ret
    exact ⟨rfl, (below_box hb1).alloc (below_box hb1).size _⟩
  · rw [if_neg (by decide)]
    go_enter Try.func54, Try.ntmps54
    go_wp2_with (first
        | (go_at_call 14; refine (co.out _).mono ?_; rintro e v1 ⟨rfl, hb1⟩; obtain ⟨hc, hf⟩ := bcell hb1; have hz : w.heap.size < v1.heap.size := by (have hz0 := hb1.size; simp at hz0; omega)))
    go_ret
    exact ⟨rfl, (below_box hb1).alloc (below_box hb1).size _⟩
set_option maxHeartbeats 1000000 in
set_option maxRecDepth 100000 in
theorem r_Fit (l : LmsR) (o : OtsR) (w : World) (l0 : 0 ≤ l.code) (l1 : l.code < 4294967296) (g0 : 0 ≤ o.code) (g1 : o.code < 4294967296) :
    Calls Try.prog 19 #[l.enc, o.enc] w fun e w' => e = .returned (.bool (fitS l o)) ∧ Below w.heap.size w w' := by
  have Cl := fun w => r_MayLms l w l0 l1
  have Co := fun w => r_MayOts o w g0 g1
  unfold fitS
  obtain ⟨a0, a1, a2, a3⟩ := l
  obtain ⟨b0, b1, b2, b3, b4, b5⟩ := o
  generalize isLmsS _ = p at *
  generalize isOtsS _ = q at *
  simp only [LmsR.enc, OtsR.enc] at *
  have cl := Lib.hid Cl; have co := Lib.hid Co; clear Cl Co
  cases p with
  | false =>
    rw [if_neg (by decide)]
    go_enter Try.func19, Try.ntmps19
    go_wp2_with (first
        | (go_at_call 51; refine (cl.out _).mono ?_; rintro e v1 ⟨rfl, hb1⟩; obtain ⟨hc, hf⟩ := bcell hb1; have hz : w.heap.size + 1 < v1.heap.size := (by (have hz0 := hb1.size; simp at hz0; omega)); have hzA : w.heap.size < v1.heap.size := by omega)
        | (go_at_call 52; refine (co.out _).mono ?_; rintro e v2 ⟨rfl, hb2⟩; obtain ⟨hc2, hf2⟩ := bcell hb2; have hz2 : w.heap.size + 1 < v2.heap.size := by (have hz0 := hb2.size; omega)))
    go_ret
    exact ⟨rfl, below_box (below_box hb1)⟩
  | true =>
    rw [if_pos rfl]
    cases q with
    | false =>
      rw [if_neg (by decide)]
      go_enter Try.func19, Try.ntmps19
      go_wp2_with (first
          | (go_at_call 51; refine (cl.out _).mono ?_; rintro e v1 ⟨rfl, hb1⟩; obtain ⟨hc, hf⟩ := bcell hb1; have hz : w.heap.size + 1 < v1.heap.size := (by (have hz0 := hb1.size; simp at hz0; omega)); have hzA : w.heap.size < v1.heap.size := by omega)
          | (go_at_call 52; refine (co.out _).mono ?_; rintro e v2 ⟨rfl, hb2⟩; obtain ⟨hc2, hf2⟩ := bcell hb2; have hz2 : w.heap.size + 1 < v2.heap.size := by (have hz0 := hb2.size; omega)))
      go_ret
      exact ⟨rfl, below_step (below_box (below_box hb1)) hb2⟩
    | true =>
      rw [if_pos rfl]
      cases t : (a1 == b1) with
      | false =>
        rw [if_neg (by decide)]
        go_enter Try.func19, Try.ntmps19
        go_wp2_with (first
            | (go_at_call 51; refine (cl.out _).mono ?_; rintro e v1 ⟨rfl, hb1⟩; obtain ⟨hc, hf⟩ := bcell hb1; have hz : w.heap.size + 1 < v1.heap.size := (by (have hz0 := hb1.size; simp at hz0; omega)); have hzA : w.heap.size < v1.heap.size := by omega)
            | (go_at_call 52; refine (co.out _).mono ?_; rintro e v2 ⟨rfl, hb2⟩; obtain ⟨hc2, hf2⟩ := bcell hb2; have hz2 : w.heap.size + 1 < v2.heap.size := by (have hz0 := hb2.size; omega)))
        go_ret
        exact ⟨rfl, below_step (below_box (below_box hb1)) hb2⟩
      | true =>
        rw [if_pos rfl]
        go_enter Try.func19, Try.ntmps19
        go_wp2_with (first
            | (go_at_call 51; refine (cl.out _).mono ?_; rintro e v1 ⟨rfl, hb1⟩; obtain ⟨hc, hf⟩ := bcell hb1; have hz : w.heap.size + 1 < v1.heap.size := (by (have hz0 := hb1.size; simp at hz0; omega)); have hzA : w.heap.size < v1.heap.size := by omega)
            | (go_at_call 52; refine (co.out _).mono ?_; rintro e v2 ⟨rfl, hb2⟩; obtain ⟨hc2, hf2⟩ := bcell hb2; have hz2 : w.heap.size + 1 < v2.heap.size := by (have hz0 := hb2.size; omega)))
        go_ret
        exact ⟨rfl, below_step (below_box (below_box hb1)) hb2⟩
set_option maxHeartbeats 1000000 in
set_option maxRecDepth 100000 in
theorem r_OtsLen (o : OtsR) (w : World) (g0 : 0 ≤ o.code) (g1 : o.code < 4294967296) :
    Calls Try.prog 21 #[o.enc] w fun e w' => e = .returned (.int .i64 (otsLenS o)) ∧ Below w.heap.size w w' := by
  have Co := fun w => r_MayOts o w g0 g1
  unfold otsLenS
  have hb : isOtsS o = true → _ := isOts_bd
  generalize isOtsS o = p at *
  have co := Lib.hid Co; clear Co
  cases p with
  | false =>
    rw [if_neg (by decide)]
    clear hb
    obtain ⟨b0, b1, b2, b3, b4, b5⟩ := o
    simp only [OtsR.enc] at *
    go_enter Try.func21, Try.ntmps21
    go_wp2_with (first
        | (go_at_call 52; refine (co.out _).mono ?_; rintro e v1 ⟨rfl, hb1⟩; obtain ⟨hc, hf⟩ := bcell hb1; have hz : w.heap.size < v1.heap.size := by (have hz0 := hb1.size; simp at hz0; omega)))
    go_ret
    exact ⟨rfl, below_box hb1⟩
  | true =>
    rw [if_pos rfl]
    replace hb := hb rfl
    have m1 := mul_bd hb.1 hb.2.1 (show 0 ≤ o.p + 1 by omega) (show o.p + 1 ≤ 301 by omega)
    have u0 : IntKind.i64.wrap (o.n * (o.p + 1)) = o.n * (o.p + 1) := IntWalk.i64_in _ (by omega)
    have u1 : IntKind.i64.wrap (4 + o.n * (o.p + 1)) = 4 + o.n * (o.p + 1) := IntWalk.i64_in _ (by omega)
    obtain ⟨b0, b1, b2, b3, b4, b5⟩ := o
    simp only [OtsR.enc] at *
    go_enter Try.func21, Try.ntmps21
    go_wp2_with (first
        | (go_at_call 52; refine (co.out _).mono ?_; rintro e v1 ⟨rfl, hb1⟩; obtain ⟨hc, hf⟩ := bcell hb1; have hz : w.heap.size < v1.heap.size := by (have hz0 := hb1.size; simp at hz0; omega)))
    go_ret
    exact ⟨rfl, below_box hb1⟩
set_option maxHeartbeats 1000000 in
set_option maxRecDepth 100000 in
theorem r_XmssLen (o : XmsR) (w : World) (g0 : 0 ≤ o.code) (g1 : o.code < 4294967296) :
    Calls Try.prog 25 #[o.enc] w fun e w' => e = .returned (.int .i64 (xmsLenS o)) ∧ Below w.heap.size w w' := by
  have Co := fun w => r_MayXmss o w g0 g1
  unfold xmsLenS
  have hb : isXmsS o = true → _ := isXms_bd
  generalize isXmsS o = p at *
  have co := Lib.hid Co; clear Co
  cases p with
  | false =>
    rw [if_neg (by decide)]
    clear hb
    obtain ⟨b0, b1, b2, b3, b4⟩ := o
    simp only [XmsR.enc] at *
    go_enter Try.func25, Try.ntmps25
    go_wp2_with (first
        | (go_at_call 54; refine (co.out _).mono ?_; rintro e v1 ⟨rfl, hb1⟩; obtain ⟨hc, hf⟩ := bcell hb1; have hz : w.heap.size < v1.heap.size := by (have hz0 := hb1.size; simp at hz0; omega)))
    go_ret
    exact ⟨rfl, below_box hb1⟩
  | true =>
    rw [if_pos rfl]
    replace hb := hb rfl
    have m1 := mul_bd (show 0 ≤ o.len + o.h by omega) (show o.len + o.h ≤ 600 by omega) hb.1 hb.2.1
    have u0 : IntKind.i64.wrap ((o.len + o.h) * o.n) = (o.len + o.h) * o.n := IntWalk.i64_in _ (by omega)
    have u1 : IntKind.i64.wrap (4 + o.n + (o.len + o.h) * o.n) = 4 + o.n + (o.len + o.h) * o.n := IntWalk.i64_in _ (by omega)
    obtain ⟨b0, b1, b2, b3, b4⟩ := o
    simp only [XmsR.enc] at *
    go_enter Try.func25, Try.ntmps25
    go_wp2_with (first
        | (go_at_call 54; refine (co.out _).mono ?_; rintro e v1 ⟨rfl, hb1⟩; obtain ⟨hc, hf⟩ := bcell hb1; have hz : w.heap.size < v1.heap.size := by (have hz0 := hb1.size; simp at hz0; omega)))
    go_ret
    exact ⟨rfl, below_box hb1⟩
set_option maxHeartbeats 1000000 in
set_option maxRecDepth 100000 in
theorem r_LmsPub (o : LmsR) (w : World) (g0 : 0 ≤ o.code) (g1 : o.code < 4294967296) :
    Calls Try.prog 27 #[o.enc] w fun e w' => e = .returned (.int .i64 (lmsPubS o)) ∧ Below w.heap.size w w' := by
  have Co := fun w => r_MayLms o w g0 g1
  unfold lmsPubS
  have hb : isLmsS o = true → _ := isLms_bd
  generalize isLmsS o = p at *
  have co := Lib.hid Co; clear Co
  cases p with
  | false =>
    rw [if_neg (by decide)]
    clear hb
    obtain ⟨b0, b1, b2, b3⟩ := o
    simp only [LmsR.enc] at *
    go_enter Try.func27, Try.ntmps27
    go_wp2_with (first
        | (go_at_call 51; refine (co.out _).mono ?_; rintro e v1 ⟨rfl, hb1⟩; obtain ⟨hc, hf⟩ := bcell hb1; have hz : w.heap.size < v1.heap.size := by (have hz0 := hb1.size; simp at hz0; omega)))
    go_ret
    exact ⟨rfl, below_box hb1⟩
  | true =>
    rw [if_pos rfl]
    replace hb := hb rfl
    have m1 := hb.1
    obtain ⟨b0, b1, b2, b3⟩ := o
    simp only [LmsR.enc] at *
    go_enter Try.func27, Try.ntmps27
    go_wp2_with (first
        | (go_at_call 51; refine (co.out _).mono ?_; rintro e v1 ⟨rfl, hb1⟩; obtain ⟨hc, hf⟩ := bcell hb1; have hz : w.heap.size < v1.heap.size := by (have hz0 := hb1.size; simp at hz0; omega)))
    go_ret
    exact ⟨rfl, below_box hb1⟩
set_option maxHeartbeats 1000000 in
set_option maxRecDepth 100000 in
theorem r_XmssPub (o : XmsR) (w : World) (g0 : 0 ≤ o.code) (g1 : o.code < 4294967296) :
    Calls Try.prog 29 #[o.enc] w fun e w' => e = .returned (.int .i64 (xmsPubS o)) ∧ Below w.heap.size w w' := by
  have Co := fun w => r_MayXmss o w g0 g1
  unfold xmsPubS
  have hb : isXmsS o = true → _ := isXms_bd
  generalize isXmsS o = p at *
  have co := Lib.hid Co; clear Co
  cases p with
  | false =>
    rw [if_neg (by decide)]
    clear hb
    obtain ⟨b0, b1, b2, b3, b4⟩ := o
    simp only [XmsR.enc] at *
    go_enter Try.func29, Try.ntmps29
    go_wp2_with (first
        | (go_at_call 54; refine (co.out _).mono ?_; rintro e v1 ⟨rfl, hb1⟩; obtain ⟨hc, hf⟩ := bcell hb1; have hz : w.heap.size < v1.heap.size := by (have hz0 := hb1.size; simp at hz0; omega)))
    go_ret
    exact ⟨rfl, below_box hb1⟩
  | true =>
    rw [if_pos rfl]
    replace hb := hb rfl
    have m1 := hb.1
    obtain ⟨b0, b1, b2, b3, b4⟩ := o
    simp only [XmsR.enc] at *
    go_enter Try.func29, Try.ntmps29
    go_wp2_with (first
        | (go_at_call 54; refine (co.out _).mono ?_; rintro e v1 ⟨rfl, hb1⟩; obtain ⟨hc, hf⟩ := bcell hb1; have hz : w.heap.size < v1.heap.size := by (have hz0 := hb1.size; simp at hz0; omega)))
    go_ret
    exact ⟨rfl, below_box hb1⟩
set_option maxHeartbeats 1000000 in
set_option maxRecDepth 100000 in
theorem r_LmsLen (l : LmsR) (o : OtsR) (w : World) (l0 : 0 ≤ l.code) (l1 : l.code < 4294967296) (g0 : 0 ≤ o.code) (g1 : o.code < 4294967296) :
    Calls Try.prog 23 #[l.enc, o.enc] w fun e w' => e = .returned (.int .i64 (lmsLenS l o)) ∧ Below w.heap.size w w' := by
  have Cf := fun w => r_Fit l o w l0 l1 g0 g1
  have Co := fun w => r_OtsLen o w g0 g1
  unfold lmsLenS
  have hb : fitS l o = true → (0 ≤ otsLenS o ∧ otsLenS o ≤ 10000) ∧ 0 ≤ l.h * l.n ∧ l.h * l.n ≤ 9600 := by
    intro h
    obtain ⟨h1, h2⟩ := fit_parts h
    have b1 := isLms_bd h1
    have b2 := isOts_bd h2
    refine ⟨?_, mul_bd b1.2.2.1 b1.2.2.2 b1.1 b1.2.1⟩
    unfold otsLenS
    rw [if_pos h2]
    have m1 := mul_bd b2.1 b2.2.1 (show 0 ≤ o.p + 1 by omega) (show o.p + 1 ≤ 301 by omega)
    omega
  generalize fitS l o = p at *
  generalize otsLenS o = q at *
  obtain ⟨a0, a1, a2, a3⟩ := l
  obtain ⟨b0, b1, b2, b3, b4, b5⟩ := o
  simp only [LmsR.enc, OtsR.enc] at *
  have cf := Lib.hid Cf; have co := Lib.hid Co; clear Cf Co
  cases p with
  | false =>
    rw [if_neg (by decide)]
    clear hb
    go_enter Try.func23, Try.ntmps23
    go_wp2_with (first
        | (go_at_call 19; refine (cf.out _).mono ?_; rintro e v1 ⟨rfl, hb1⟩; obtain ⟨hc, hf⟩ := bcell hb1; have hz : w.heap.size + 1 < v1.heap.size := (by (have hz0 := hb1.size; simp at hz0; omega)); have hzA : w.heap.size < v1.heap.size := by omega))
    go_ret
    exact ⟨rfl, below_box (below_box hb1)⟩
  | true =>
    rw [if_pos rfl]
    obtain ⟨⟨q0, q1⟩, m0, m1⟩ := hb rfl
    clear hb
    have u0 : IntKind.i64.wrap (8 + q) = 8 + q := IntWalk.i64_in _ (by omega)
    have u1 : IntKind.i64.wrap (a3 * a2) = a3 * a2 := IntWalk.i64_in _ (by omega)
    have u2 : IntKind.i64.wrap (8 + q + a3 * a2) = 8 + q + a3 * a2 := IntWalk.i64_in _ (by omega)
    go_enter Try.func23, Try.ntmps23
    go_wp2_with (first
        | (go_at_call 19; refine (cf.out _).mono ?_; rintro e v1 ⟨rfl, hb1⟩; obtain ⟨hc, hf⟩ := bcell hb1; have hz : w.heap.size + 1 < v1.heap.size := (by (have hz0 := hb1.size; simp at hz0; omega)); have hzA : w.heap.size < v1.heap.size := by omega))
    have e0 : v1.cell? ⟨w.heap.size, 0, none⟩ = some (.int .u32 a0) := by rw [hc _ _ (by simp <;> omega)]; go_simp
    have e1 : v1.cell? ⟨w.heap.size, 1, none⟩ = some (.bool a1) := by rw [hc _ _ (by simp <;> omega)]; go_simp
    have e2 : v1.cell? ⟨w.heap.size, 2, none⟩ = some (.int .i64 a2) := by rw [hc _ _ (by simp <;> omega)]; go_simp
    have e3 : v1.cell? ⟨w.heap.size, 3, none⟩ = some (.int .i64 a3) := by rw [hc _ _ (by simp <;> omega)]; go_simp
    have e4 : v1.cell? ⟨w.heap.size + 1, 0, none⟩ = some (.int .u32 b0) := by rw [hc _ _ (by simp <;> omega)]; go_simp
    have e5 : v1.cell? ⟨w.heap.size + 1, 1, none⟩ = some (.bool b1) := by rw [hc _ _ (by simp <;> omega)]; go_simp
    have e6 : v1.cell? ⟨w.heap.size + 1, 2, none⟩ = some (.int .i64 b2) := by rw [hc _ _ (by simp <;> omega)]; go_simp
    have e7 : v1.cell? ⟨w.heap.size + 1, 3, none⟩ = some (.int .i64 b3) := by rw [hc _ _ (by simp <;> omega)]; go_simp
    have e8 : v1.cell? ⟨w.heap.size + 1, 4, none⟩ = some (.int .i64 b4) := by rw [hc _ _ (by simp <;> omega)]; go_simp
    have e9 : v1.cell? ⟨w.heap.size + 1, 5, none⟩ = some (.int .i64 b5) := by rw [hc _ _ (by simp <;> omega)]; go_simp
    have HB := Aside0.mk (below_box (below_box hb1))
    clear hc hf hb1
    go_region_held3 (fun W => W.cell? ⟨w.heap.size, 0, none⟩ = some (.int .u32 a0) ∧ W.cell? ⟨w.heap.size, 1, none⟩ = some (.bool a1) ∧ W.cell? ⟨w.heap.size, 2, none⟩ = some (.int .i64 a2) ∧ W.cell? ⟨w.heap.size, 3, none⟩ = some (.int .i64 a3) ∧ W.cell? ⟨w.heap.size + 1, 0, none⟩ = some (.int .u32 b0) ∧ W.cell? ⟨w.heap.size + 1, 1, none⟩ = some (.bool b1) ∧ W.cell? ⟨w.heap.size + 1, 2, none⟩ = some (.int .i64 b2) ∧ W.cell? ⟨w.heap.size + 1, 3, none⟩ = some (.int .i64 b3) ∧ W.cell? ⟨w.heap.size + 1, 4, none⟩ = some (.int .i64 b4) ∧ W.cell? ⟨w.heap.size + 1, 5, none⟩ = some (.int .i64 b5) ∧ Aside0 (Below w.heap.size w W) ∧ w.heap.size + 1 < W.heap.size)
      (first
        | (refine ⟨e0, e1, e2, e3, e4, e5, e6, e7, e8, e9, ⟨HB.out.drew⟩, hz⟩)
        | (go_split_ands
           have hsz3 := hb3.size
           refine ⟨?_, ?_, ?_, ?_, ?_, ?_, ?_, ?_, ?_, ?_, ⟨?_⟩, ?_⟩
           · (rw [(bcell hb3).1 _ _ (by omega)]; assumption)
           · (rw [(bcell hb3).1 _ _ (by omega)]; assumption)
           · (rw [(bcell hb3).1 _ _ (by omega)]; assumption)
           · (rw [(bcell hb3).1 _ _ (by omega)]; assumption)
           · (rw [(bcell hb3).1 _ _ (by omega)]; assumption)
           · (rw [(bcell hb3).1 _ _ (by omega)]; assumption)
           · (rw [(bcell hb3).1 _ _ (by omega)]; assumption)
           · (rw [(bcell hb3).1 _ _ (by omega)]; assumption)
           · (rw [(bcell hb3).1 _ _ (by omega)]; assumption)
           · (rw [(bcell hb3).1 _ _ (by omega)]; assumption)
           · exact below_step (Aside0.out (by assumption)) hb3
           · omega))
      (first
        | (go_simp; go_at_call 21; refine (co.out _).mono ?_; rintro e v3 ⟨rfl, hb3⟩))
    go_wp2
    go_ret
    go_split_ands
    exact ⟨rfl, Aside0.out (by assumption)⟩
end Go.Proofs.Ytdnidnonjbjgmaa.Ext
