/- param's isOts, isLms, isXmss, Fit and the lengths. -/
import Derived.Test.YtdnidnonjbjgmaaPName
namespace Go.Proofs.Ytdnidnonjbjgmaa.Ext
set_option linter.unusedVariables false
open Go.RowKit Go.Proofs.YtdnidnonjbjgmaaW.PrintWords Go.Proofs.YtdnidnonjbjgmaaW.PrintLast Go.Proofs.Ytdnidnonjbjgmaa.Spec

theorem eqOts (d : Nat) (w : World) (x0 y0 : Int) (x1 y1 : Bool) (x2 y2 : Int) (x3 y3 : Int) (x4 y4 : Int) (x5 y5 : Int) :
    (Op.equalIn (d + 2) 24 (.agg #[.int .u32 x0, .bool x1, .int .i64 x2, .int .i64 x3, .int .i64 x4, .int .i64 x5]) (.agg #[.int .u32 y0, .bool y1, .int .i64 y2, .int .i64 y3, .int .i64 y4, .int .i64 y5])).run Try.prog w = .ok (x0 == y0 && (x1 == y1 && (x2 == y2 && (x3 == y3 && (x4 == y4 && (x5 == y5)))))) w := by
  refine eqA_of Try.underlying24 (by kernel_rfl) ?_
  refine eqf_cons (by rfl) (by go_simp; rfl) (by go_simp; rfl) (by go_simp) ?_
  refine eqf_cons (by rfl) (by go_simp; rfl) (by go_simp; rfl) (by go_simp) ?_
  refine eqf_cons (by rfl) (by go_simp; rfl) (by go_simp; rfl) (by go_simp) ?_
  refine eqf_cons (by rfl) (by go_simp; rfl) (by go_simp; rfl) (by go_simp) ?_
  refine eqf_cons (by rfl) (by go_simp; rfl) (by go_simp; rfl) (by go_simp) ?_
  exact eqf_last (by rfl) (by go_simp; rfl) (by go_simp; rfl) (by go_simp)
theorem eqLms (d : Nat) (w : World) (x0 y0 : Int) (x1 y1 : Bool) (x2 y2 : Int) (x3 y3 : Int) :
    (Op.equalIn (d + 2) 31 (.agg #[.int .u32 x0, .bool x1, .int .i64 x2, .int .i64 x3]) (.agg #[.int .u32 y0, .bool y1, .int .i64 y2, .int .i64 y3])).run Try.prog w = .ok (x0 == y0 && (x1 == y1 && (x2 == y2 && (x3 == y3)))) w := by
  refine eqA_of Try.underlying31 (by kernel_rfl) ?_
  refine eqf_cons (by rfl) (by go_simp; rfl) (by go_simp; rfl) (by go_simp) ?_
  refine eqf_cons (by rfl) (by go_simp; rfl) (by go_simp; rfl) (by go_simp) ?_
  refine eqf_cons (by rfl) (by go_simp; rfl) (by go_simp; rfl) (by go_simp) ?_
  exact eqf_last (by rfl) (by go_simp; rfl) (by go_simp; rfl) (by go_simp)
theorem eqXms (d : Nat) (w : World) (x0 y0 : Int) (x1 y1 : Bool) (x2 y2 : Int) (x3 y3 : Int) (x4 y4 : Int) :
    (Op.equalIn (d + 2) 35 (.agg #[.int .u32 x0, .bool x1, .int .i64 x2, .int .i64 x3, .int .i64 x4]) (.agg #[.int .u32 y0, .bool y1, .int .i64 y2, .int .i64 y3, .int .i64 y4])).run Try.prog w = .ok (x0 == y0 && (x1 == y1 && (x2 == y2 && (x3 == y3 && (x4 == y4))))) w := by
  refine eqA_of Try.underlying35 (by kernel_rfl) ?_
  refine eqf_cons (by rfl) (by go_simp; rfl) (by go_simp; rfl) (by go_simp) ?_
  refine eqf_cons (by rfl) (by go_simp; rfl) (by go_simp; rfl) (by go_simp) ?_
  refine eqf_cons (by rfl) (by go_simp; rfl) (by go_simp; rfl) (by go_simp) ?_
  refine eqf_cons (by rfl) (by go_simp; rfl) (by go_simp; rfl) (by go_simp) ?_
  exact eqf_last (by rfl) (by go_simp; rfl) (by go_simp; rfl) (by go_simp)
attribute [local go_sem high] eqOts eqLms eqXms

def eqO (x o : OtsR) : Bool := x.code == o.code && (x.shake == o.shake && (x.n == o.n && (x.w == o.w && (x.p == o.p && (x.ls == o.ls)))))
def eqL (x o : LmsR) : Bool := x.code == o.code && (x.shake == o.shake && (x.n == o.n && (x.h == o.h)))
def eqX (x o : XmsR) : Bool := x.code == o.code && (x.shake == o.shake && (x.n == o.n && (x.h == o.h && (x.len == o.len))))
theorem eqX_comm (x o : XmsR) : eqX x o = eqX o x := by
  rw [Bool.eq_iff_iff]
  simp only [eqX, Bool.and_eq_true, beq_iff_eq]
  constructor <;> (rintro ⟨h1, h2, h3, h4, h5⟩; exact ⟨h1.symm, h2.symm, h3.symm, h4.symm, h5.symm⟩)
def isOtsS (o : OtsR) : Bool := if (ots o.code).2 = 0 then eqO (ots o.code).1 o else false
def isLmsS (o : LmsR) : Bool := if (lms o.code).2 = 0 then eqL (lms o.code).1 o else false
def isXmsS (o : XmsR) : Bool := if (xms o.code).2 = 0 then eqX (xms o.code).1 o else false
def fitS (l : LmsR) (o : OtsR) : Bool := if isLmsS l = true then if isOtsS o = true then if (l.shake == o.shake) = true then l.n == o.n else false else false else false
def otsLenS (o : OtsR) : Int := if isOtsS o = true then 4 + o.n * (o.p + 1) else 0
def lmsLenS (l : LmsR) (o : OtsR) : Int := if fitS l o = true then 8 + otsLenS o + l.h * l.n else 0
def xmsLenS (x : XmsR) : Int := if isXmsS x = true then 4 + x.n + (x.len + x.h) * x.n else 0
def lmsPubS (l : LmsR) : Int := if isLmsS l = true then 24 + l.n else 0
def xmsPubS (x : XmsR) : Int := if isXmsS x = true then 4 + 2 * x.n else 0

theorem isOts_bd {o : OtsR} (h : isOtsS o = true) : 0 ≤ o.n ∧ o.n ≤ 32 ∧ 0 ≤ o.p ∧ o.p ≤ 300 := by
  unfold isOtsS at h
  split at h
  · have e : (ots o.code).1 = o := by
      simp only [eqO, Bool.and_eq_true, beq_iff_eq] at h
      obtain ⟨h0, h1, h2, h3, h4, h5⟩ := h
      cases o; cases hh : (ots _).1; rw [hh] at h0 h1 h2 h3 h4 h5; simp_all
    rw [← e]
    unfold ots
    split
    · rename_i h2
      unfold Spec.otsTab at h2
      split at h2 <;> simp only [Option.some.injEq, Prod.mk.injEq, reduceCtorEq] at h2 <;> (obtain ⟨rfl, rfl, rfl, rfl, rfl⟩ := h2; simp only; omega)
    · decide
  · cases h
theorem isLms_bd {o : LmsR} (h : isLmsS o = true) : 0 ≤ o.n ∧ o.n ≤ 32 ∧ 0 ≤ o.h ∧ o.h ≤ 300 := by
  unfold isLmsS at h
  split at h
  · have e : (lms o.code).1 = o := by
      simp only [eqL, Bool.and_eq_true, beq_iff_eq] at h
      obtain ⟨h0, h1, h2, h3⟩ := h
      cases o; cases hh : (lms _).1; rw [hh] at h0 h1 h2 h3; simp_all
    rw [← e]
    unfold lms
    split
    · rename_i f h e
      have := fBytes_bd f
      unfold lmsFam at e
      split at e
      · cases e; simp only; omega
      · have := ownFam_bd e; simp only; omega
    · decide
  · cases h
theorem isXms_bd {o : XmsR} (h : isXmsS o = true) : 0 ≤ o.n ∧ o.n ≤ 32 ∧ 0 ≤ o.h ∧ o.h ≤ 300 ∧ 0 ≤ o.len ∧ o.len ≤ 300 := by
  unfold isXmsS at h
  split at h
  · have e : (xms o.code).1 = o := by
      simp only [eqX, Bool.and_eq_true, beq_iff_eq] at h
      obtain ⟨h0, h1, h2, h3, h4⟩ := h
      cases o; cases hh : (xms _).1; rw [hh] at h0 h1 h2 h3 h4; simp_all
    rw [← e]
    unfold xms
    split
    · rename_i f h e
      have := fBytes_bd f
      unfold xmsFam at e
      split at e
      · cases e; have := height_bd (o.code - 1); simp only; omega
      · split at e
        · cases e; have := height_bd ((o.code - 13) % 3); simp only; omega
        · have := ownFam_bd e; simp only; omega
    · decide
  · cases h
theorem fit_parts {l : LmsR} {o : OtsR} (h : fitS l o = true) : isLmsS l = true ∧ isOtsS o = true := by
  unfold fitS at h
  split at h
  · split at h
    · exact ⟨by assumption, by assumption⟩
    · cases h
  · cases h
theorem below_box {w v : World} {o : Obj} (h : Below (w.alloc o).heap.size (w.alloc o) v) : Below w.heap.size w v := ((Below.refl _ _).alloc (Nat.le_refl _) _).trans (h.mono (by simp))
theorem mul_bd {a b A B : Int} (h0 : 0 ≤ a) (h1 : a ≤ A) (h2 : 0 ≤ b) (h3 : b ≤ B) : 0 ≤ a * b ∧ a * b ≤ A * B :=
  ⟨Int.mul_nonneg h0 h2, Int.mul_le_mul h1 h3 h2 (by omega)⟩
set_option maxHeartbeats 1000000 in
set_option maxRecDepth 100000 in
theorem c_isOts (o : OtsR) (w : World) (g0 : 0 ≤ o.code) (g1 : o.code < 4294967296) :
    Calls Try.prog 50 #[o.enc] w fun e w' => e = .returned (.bool (isOtsS o)) ∧ Below w.heap.size w w' := by
  have Co := fun w => c_Ots o.code w g0
  unfold isOtsS
  unfold eqO
  generalize hx : ots o.code = x at *
  obtain ⟨⟨a0, a1, a2, a3, a4, a5⟩, er⟩ := x
  have he : er = 0 ∨ er = 60 := by have := ots_err o.code; rw [hx] at this; exact this
  obtain ⟨b0, b1, b2, b3, b4, b5⟩ := o
  simp only [OtsR.enc] at *
  have co := Lib.hid Co; clear Co hx
  rcases he with rfl | rfl
  · rw [if_pos rfl]
    go_enter Try.func50, Try.ntmps50
    go_wp2_with (first
        | (go_at_call 8; refine (co.out _).mono ?_; rintro e v1 ⟨rfl, hb1⟩; obtain ⟨hc, hf⟩ := bcell hb1; have hz : w.heap.size < v1.heap.size := by (have hz0 := hb1.size; simp at hz0; omega)))
    go_ret
    exact ⟨rfl, (below_box hb1).alloc (below_box hb1).size _⟩
  · rw [if_neg (by decide)]
    go_enter Try.func50, Try.ntmps50
    go_wp2_with (first
        | (go_at_call 8; refine (co.out _).mono ?_; rintro e v1 ⟨rfl, hb1⟩; obtain ⟨hc, hf⟩ := bcell hb1; have hz : w.heap.size < v1.heap.size := by (have hz0 := hb1.size; simp at hz0; omega)))
    go_ret
    exact ⟨rfl, (below_box hb1).alloc (below_box hb1).size _⟩
set_option maxHeartbeats 1000000 in
set_option maxRecDepth 100000 in
theorem c_isLms (o : LmsR) (w : World) (g0 : 0 ≤ o.code) (g1 : o.code < 4294967296) :
    Calls Try.prog 49 #[o.enc] w fun e w' => e = .returned (.bool (isLmsS o)) ∧ Below w.heap.size w w' := by
  have Co := fun w => c_Lms o.code w g0 g1
  unfold isLmsS
  unfold eqL
  generalize hx : lms o.code = x at *
  obtain ⟨⟨a0, a1, a2, a3⟩, er⟩ := x
  have he : er = 0 ∨ er = 60 := by have := lms_err o.code; rw [hx] at this; exact this
  obtain ⟨b0, b1, b2, b3⟩ := o
  simp only [LmsR.enc] at *
  have co := Lib.hid Co; clear Co hx
  rcases he with rfl | rfl
  · rw [if_pos rfl]
    go_enter Try.func49, Try.ntmps49
    go_wp2_with (first
        | (go_at_call 10; refine (co.out _).mono ?_; rintro e v1 ⟨rfl, hb1⟩; obtain ⟨hc, hf⟩ := bcell hb1; have hz : w.heap.size < v1.heap.size := by (have hz0 := hb1.size; simp at hz0; omega)))
    go_ret
    exact ⟨rfl, (below_box hb1).alloc (below_box hb1).size _⟩
  · rw [if_neg (by decide)]
    go_enter Try.func49, Try.ntmps49
    go_wp2_with (first
        | (go_at_call 10; refine (co.out _).mono ?_; rintro e v1 ⟨rfl, hb1⟩; obtain ⟨hc, hf⟩ := bcell hb1; have hz : w.heap.size < v1.heap.size := by (have hz0 := hb1.size; simp at hz0; omega)))
    go_ret
    exact ⟨rfl, (below_box hb1).alloc (below_box hb1).size _⟩
set_option maxHeartbeats 1000000 in
set_option maxRecDepth 100000 in
theorem c_isXmss (o : XmsR) (w : World) (g0 : 0 ≤ o.code) (g1 : o.code < 4294967296) :
    Calls Try.prog 53 #[o.enc] w fun e w' => e = .returned (.bool (isXmsS o)) ∧ Below w.heap.size w w' := by
  have Co := fun w => c_Xmss o.code w g0 g1
  unfold isXmsS
  unfold eqX
  generalize hx : xms o.code = x at *
  obtain ⟨⟨a0, a1, a2, a3, a4⟩, er⟩ := x
  have he : er = 0 ∨ er = 60 := by have := xms_err o.code; rw [hx] at this; exact this
  obtain ⟨b0, b1, b2, b3, b4⟩ := o
  simp only [XmsR.enc] at *
  have co := Lib.hid Co; clear Co hx
  rcases he with rfl | rfl
  · rw [if_pos rfl]
    go_enter Try.func53, Try.ntmps53
    go_wp2_with (first
        | (go_at_call 11; refine (co.out _).mono ?_; rintro e v1 ⟨rfl, hb1⟩; obtain ⟨hc, hf⟩ := bcell hb1; have hz : w.heap.size < v1.heap.size := by (have hz0 := hb1.size; simp at hz0; omega)))
    go_ret
    exact ⟨rfl, (below_box hb1).alloc (below_box hb1).size _⟩
  · rw [if_neg (by decide)]
    go_enter Try.func53, Try.ntmps53
    go_wp2_with (first
        | (go_at_call 11; refine (co.out _).mono ?_; rintro e v1 ⟨rfl, hb1⟩; obtain ⟨hc, hf⟩ := bcell hb1; have hz : w.heap.size < v1.heap.size := by (have hz0 := hb1.size; simp at hz0; omega)))
    go_ret
    exact ⟨rfl, (below_box hb1).alloc (below_box hb1).size _⟩
set_option maxHeartbeats 1000000 in
set_option maxRecDepth 100000 in
theorem c_Fit (l : LmsR) (o : OtsR) (w : World) (l0 : 0 ≤ l.code) (l1 : l.code < 4294967296) (g0 : 0 ≤ o.code) (g1 : o.code < 4294967296) :
    Calls Try.prog 18 #[l.enc, o.enc] w fun e w' => e = .returned (.bool (fitS l o)) ∧ Below w.heap.size w w' := by
  have Cl := fun w => c_isLms l w l0 l1
  have Co := fun w => c_isOts o w g0 g1
  unfold fitS
  obtain ⟨a0, a1, a2, a3⟩ := l
  obtain ⟨b0, b1, b2, b3, b4, b5⟩ := o
  generalize isLmsS _ = p at *
  generalize isOtsS _ = q at *
  simp only [LmsR.enc, OtsR.enc] at *
  have cl := Lib.hid Cl; have co := Lib.hid Co; clear Cl Co
  cases p with
  | false =>
    rw [if_neg (by decide)]
    go_enter Try.func18, Try.ntmps18
    go_wp2_with (first
        | (go_at_call 49; refine (cl.out _).mono ?_; rintro e v1 ⟨rfl, hb1⟩; obtain ⟨hc, hf⟩ := bcell hb1; have hz : w.heap.size + 1 < v1.heap.size := (by (have hz0 := hb1.size; simp at hz0; omega)); have hzA : w.heap.size < v1.heap.size := by omega)
        | (go_at_call 50; refine (co.out _).mono ?_; rintro e v2 ⟨rfl, hb2⟩; obtain ⟨hc2, hf2⟩ := bcell hb2; have hz2 : w.heap.size + 1 < v2.heap.size := by (have hz0 := hb2.size; omega)))
    go_ret
    exact ⟨rfl, below_box (below_box hb1)⟩
  | true =>
    rw [if_pos rfl]
    cases q with
    | false =>
      rw [if_neg (by decide)]
      go_enter Try.func18, Try.ntmps18
      go_wp2_with (first
          | (go_at_call 49; refine (cl.out _).mono ?_; rintro e v1 ⟨rfl, hb1⟩; obtain ⟨hc, hf⟩ := bcell hb1; have hz : w.heap.size + 1 < v1.heap.size := (by (have hz0 := hb1.size; simp at hz0; omega)); have hzA : w.heap.size < v1.heap.size := by omega)
          | (go_at_call 50; refine (co.out _).mono ?_; rintro e v2 ⟨rfl, hb2⟩; obtain ⟨hc2, hf2⟩ := bcell hb2; have hz2 : w.heap.size + 1 < v2.heap.size := by (have hz0 := hb2.size; omega)))
      go_ret
      exact ⟨rfl, below_step (below_box (below_box hb1)) hb2⟩
    | true =>
      rw [if_pos rfl]
      cases t : (a1 == b1) with
      | false =>
        rw [if_neg (by decide)]
        go_enter Try.func18, Try.ntmps18
        go_wp2_with (first
            | (go_at_call 49; refine (cl.out _).mono ?_; rintro e v1 ⟨rfl, hb1⟩; obtain ⟨hc, hf⟩ := bcell hb1; have hz : w.heap.size + 1 < v1.heap.size := (by (have hz0 := hb1.size; simp at hz0; omega)); have hzA : w.heap.size < v1.heap.size := by omega)
            | (go_at_call 50; refine (co.out _).mono ?_; rintro e v2 ⟨rfl, hb2⟩; obtain ⟨hc2, hf2⟩ := bcell hb2; have hz2 : w.heap.size + 1 < v2.heap.size := by (have hz0 := hb2.size; omega)))
        go_ret
        exact ⟨rfl, below_step (below_box (below_box hb1)) hb2⟩
      | true =>
        rw [if_pos rfl]
        go_enter Try.func18, Try.ntmps18
        go_wp2_with (first
            | (go_at_call 49; refine (cl.out _).mono ?_; rintro e v1 ⟨rfl, hb1⟩; obtain ⟨hc, hf⟩ := bcell hb1; have hz : w.heap.size + 1 < v1.heap.size := (by (have hz0 := hb1.size; simp at hz0; omega)); have hzA : w.heap.size < v1.heap.size := by omega)
            | (go_at_call 50; refine (co.out _).mono ?_; rintro e v2 ⟨rfl, hb2⟩; obtain ⟨hc2, hf2⟩ := bcell hb2; have hz2 : w.heap.size + 1 < v2.heap.size := by (have hz0 := hb2.size; omega)))
        go_ret
        exact ⟨rfl, below_step (below_box (below_box hb1)) hb2⟩
set_option maxHeartbeats 1000000 in
set_option maxRecDepth 100000 in
theorem c_OtsLen (o : OtsR) (w : World) (g0 : 0 ≤ o.code) (g1 : o.code < 4294967296) :
    Calls Try.prog 20 #[o.enc] w fun e w' => e = .returned (.int .i64 (otsLenS o)) ∧ Below w.heap.size w w' := by
  have Co := fun w => c_isOts o w g0 g1
  unfold otsLenS
  have hb : isOtsS o = true → _ := isOts_bd
  generalize isOtsS o = p at *
  have co := Lib.hid Co; clear Co
  cases p with
  | false =>
    rw [if_neg (by decide)]
    clear hb
    obtain ⟨b0, b1, b2, b3, b4, b5⟩ := o
    simp only [OtsR.enc] at *
    go_enter Try.func20, Try.ntmps20
    go_wp2_with (first
        | (go_at_call 50; refine (co.out _).mono ?_; rintro e v1 ⟨rfl, hb1⟩; obtain ⟨hc, hf⟩ := bcell hb1; have hz : w.heap.size < v1.heap.size := by (have hz0 := hb1.size; simp at hz0; omega)))
    go_ret
    exact ⟨rfl, below_box hb1⟩
  | true =>
    rw [if_pos rfl]
    replace hb := hb rfl
    have m1 := mul_bd hb.1 hb.2.1 (show 0 ≤ o.p + 1 by omega) (show o.p + 1 ≤ 301 by omega)
    have u0 : IntKind.i64.wrap (o.n * (o.p + 1)) = o.n * (o.p + 1) := IntWalk.i64_in _ (by omega)
    have u1 : IntKind.i64.wrap (4 + o.n * (o.p + 1)) = 4 + o.n * (o.p + 1) := IntWalk.i64_in _ (by omega)
    obtain ⟨b0, b1, b2, b3, b4, b5⟩ := o
    simp only [OtsR.enc] at *
    go_enter Try.func20, Try.ntmps20
    go_wp2_with (first
        | (go_at_call 50; refine (co.out _).mono ?_; rintro e v1 ⟨rfl, hb1⟩; obtain ⟨hc, hf⟩ := bcell hb1; have hz : w.heap.size < v1.heap.size := by (have hz0 := hb1.size; simp at hz0; omega)))
    go_ret
    exact ⟨rfl, below_box hb1⟩
set_option maxHeartbeats 1000000 in
set_option maxRecDepth 100000 in
theorem c_XmssLen (o : XmsR) (w : World) (g0 : 0 ≤ o.code) (g1 : o.code < 4294967296) :
    Calls Try.prog 24 #[o.enc] w fun e w' => e = .returned (.int .i64 (xmsLenS o)) ∧ Below w.heap.size w w' := by
  have Co := fun w => c_isXmss o w g0 g1
  unfold xmsLenS
  have hb : isXmsS o = true → _ := isXms_bd
  generalize isXmsS o = p at *
  have co := Lib.hid Co; clear Co
  cases p with
  | false =>
    rw [if_neg (by decide)]
    clear hb
    obtain ⟨b0, b1, b2, b3, b4⟩ := o
    simp only [XmsR.enc] at *
    go_enter Try.func24, Try.ntmps24
    go_wp2_with (first
        | (go_at_call 53; refine (co.out _).mono ?_; rintro e v1 ⟨rfl, hb1⟩; obtain ⟨hc, hf⟩ := bcell hb1; have hz : w.heap.size < v1.heap.size := by (have hz0 := hb1.size; simp at hz0; omega)))
    go_ret
    exact ⟨rfl, below_box hb1⟩
  | true =>
    rw [if_pos rfl]
    replace hb := hb rfl
    have m1 := mul_bd (show 0 ≤ o.len + o.h by omega) (show o.len + o.h ≤ 600 by omega) hb.1 hb.2.1
    have u0 : IntKind.i64.wrap ((o.len + o.h) * o.n) = (o.len + o.h) * o.n := IntWalk.i64_in _ (by omega)
    have u1 : IntKind.i64.wrap (4 + o.n + (o.len + o.h) * o.n) = 4 + o.n + (o.len + o.h) * o.n := IntWalk.i64_in _ (by omega)
    obtain ⟨b0, b1, b2, b3, b4⟩ := o
    simp only [XmsR.enc] at *
    go_enter Try.func24, Try.ntmps24
    go_wp2_with (first
        | (go_at_call 53; refine (co.out _).mono ?_; rintro e v1 ⟨rfl, hb1⟩; obtain ⟨hc, hf⟩ := bcell hb1; have hz : w.heap.size < v1.heap.size := by (have hz0 := hb1.size; simp at hz0; omega)))
    go_ret
    exact ⟨rfl, below_box hb1⟩
set_option maxHeartbeats 1000000 in
set_option maxRecDepth 100000 in
theorem c_LmsPub (o : LmsR) (w : World) (g0 : 0 ≤ o.code) (g1 : o.code < 4294967296) :
    Calls Try.prog 26 #[o.enc] w fun e w' => e = .returned (.int .i64 (lmsPubS o)) ∧ Below w.heap.size w w' := by
  have Co := fun w => c_isLms o w g0 g1
  unfold lmsPubS
  have hb : isLmsS o = true → _ := isLms_bd
  generalize isLmsS o = p at *
  have co := Lib.hid Co; clear Co
  cases p with
  | false =>
    rw [if_neg (by decide)]
    clear hb
    obtain ⟨b0, b1, b2, b3⟩ := o
    simp only [LmsR.enc] at *
    go_enter Try.func26, Try.ntmps26
    go_wp2_with (first
        | (go_at_call 49; refine (co.out _).mono ?_; rintro e v1 ⟨rfl, hb1⟩; obtain ⟨hc, hf⟩ := bcell hb1; have hz : w.heap.size < v1.heap.size := by (have hz0 := hb1.size; simp at hz0; omega)))
    go_ret
    exact ⟨rfl, below_box hb1⟩
  | true =>
    rw [if_pos rfl]
    replace hb := hb rfl
    have m1 := hb.1
    obtain ⟨b0, b1, b2, b3⟩ := o
    simp only [LmsR.enc] at *
    go_enter Try.func26, Try.ntmps26
    go_wp2_with (first
        | (go_at_call 49; refine (co.out _).mono ?_; rintro e v1 ⟨rfl, hb1⟩; obtain ⟨hc, hf⟩ := bcell hb1; have hz : w.heap.size < v1.heap.size := by (have hz0 := hb1.size; simp at hz0; omega)))
    go_ret
    exact ⟨rfl, below_box hb1⟩
set_option maxHeartbeats 1000000 in
set_option maxRecDepth 100000 in
theorem c_XmssPub (o : XmsR) (w : World) (g0 : 0 ≤ o.code) (g1 : o.code < 4294967296) :
    Calls Try.prog 28 #[o.enc] w fun e w' => e = .returned (.int .i64 (xmsPubS o)) ∧ Below w.heap.size w w' := by
  have Co := fun w => c_isXmss o w g0 g1
  unfold xmsPubS
  have hb : isXmsS o = true → _ := isXms_bd
  generalize isXmsS o = p at *
  have co := Lib.hid Co; clear Co
  cases p with
  | false =>
    rw [if_neg (by decide)]
    clear hb
    obtain ⟨b0, b1, b2, b3, b4⟩ := o
    simp only [XmsR.enc] at *
    go_enter Try.func28, Try.ntmps28
    go_wp2_with (first
        | (go_at_call 53; refine (co.out _).mono ?_; rintro e v1 ⟨rfl, hb1⟩; obtain ⟨hc, hf⟩ := bcell hb1; have hz : w.heap.size < v1.heap.size := by (have hz0 := hb1.size; simp at hz0; omega)))
    go_ret
    exact ⟨rfl, below_box hb1⟩
  | true =>
    rw [if_pos rfl]
    replace hb := hb rfl
    have m1 := hb.1
    obtain ⟨b0, b1, b2, b3, b4⟩ := o
    simp only [XmsR.enc] at *
    go_enter Try.func28, Try.ntmps28
    go_wp2_with (first
        | (go_at_call 53; refine (co.out _).mono ?_; rintro e v1 ⟨rfl, hb1⟩; obtain ⟨hc, hf⟩ := bcell hb1; have hz : w.heap.size < v1.heap.size := by (have hz0 := hb1.size; simp at hz0; omega)))
    go_ret
    exact ⟨rfl, below_box hb1⟩
set_option maxHeartbeats 1000000 in
set_option maxRecDepth 100000 in
theorem c_LmsLen (l : LmsR) (o : OtsR) (w : World) (l0 : 0 ≤ l.code) (l1 : l.code < 4294967296) (g0 : 0 ≤ o.code) (g1 : o.code < 4294967296) :
    Calls Try.prog 22 #[l.enc, o.enc] w fun e w' => e = .returned (.int .i64 (lmsLenS l o)) ∧ Below w.heap.size w w' := by
  have Cf := fun w => c_Fit l o w l0 l1 g0 g1
  have Co := fun w => c_OtsLen o w g0 g1
  unfold lmsLenS
  have hb : fitS l o = true → (0 ≤ otsLenS o ∧ otsLenS o ≤ 10000) ∧ 0 ≤ l.h * l.n ∧ l.h * l.n ≤ 9600 := by
    intro h
    obtain ⟨h1, h2⟩ := fit_parts h
    have b1 := isLms_bd h1
    have b2 := isOts_bd h2
    refine ⟨?_, mul_bd b1.2.2.1 b1.2.2.2 b1.1 b1.2.1⟩
    unfold otsLenS
    rw [if_pos h2]
    have m1 := mul_bd b2.1 b2.2.1 (show 0 ≤ o.p + 1 by omega) (show o.p + 1 ≤ 301 by omega)
    omega
  generalize fitS l o = p at *
  generalize otsLenS o = q at *
  obtain ⟨a0, a1, a2, a3⟩ := l
  obtain ⟨b0, b1, b2, b3, b4, b5⟩ := o
  simp only [LmsR.enc, OtsR.enc] at *
  have cf := Lib.hid Cf; have co := Lib.hid Co; clear Cf Co
  cases p with
  | false =>
    rw [if_neg (by decide)]
    clear hb
    go_enter Try.func22, Try.ntmps22
    go_wp2_with (first
        | (go_at_call 18; refine (cf.out _).mono ?_; rintro e v1 ⟨rfl, hb1⟩; obtain ⟨hc, hf⟩ := bcell hb1; have hz : w.heap.size + 1 < v1.heap.size := (by (have hz0 := hb1.size; simp at hz0; omega)); have hzA : w.heap.size < v1.heap.size := by omega))
    go_ret
    exact ⟨rfl, below_box (below_box hb1)⟩
  | true =>
    rw [if_pos rfl]
    obtain ⟨⟨q0, q1⟩, m0, m1⟩ := hb rfl
    clear hb
    have u0 : IntKind.i64.wrap (4 + q) = 4 + q := IntWalk.i64_in _ (by omega)
    have u1 : IntKind.i64.wrap (4 + q + 4) = 4 + q + 4 := IntWalk.i64_in _ (by omega)
    have u2 : IntKind.i64.wrap (a3 * a2) = a3 * a2 := IntWalk.i64_in _ (by omega)
    have u3 : IntKind.i64.wrap (4 + q + 4 + a3 * a2) = 4 + q + 4 + a3 * a2 := IntWalk.i64_in _ (by omega)
    have HE := Aside0.mk (show 8 + q + a3 * a2 = 4 + q + 4 + a3 * a2 by omega)
    go_enter Try.func22, Try.ntmps22
    go_wp2_with (first
        | (go_at_call 18; refine (cf.out _).mono ?_; rintro e v1 ⟨rfl, hb1⟩; obtain ⟨hc, hf⟩ := bcell hb1; have hz : w.heap.size + 1 < v1.heap.size := (by (have hz0 := hb1.size; simp at hz0; omega)); have hzA : w.heap.size < v1.heap.size := by omega))
    have e0 : v1.cell? ⟨w.heap.size, 0, none⟩ = some (.int .u32 a0) := by rw [hc _ _ (by simp <;> omega)]; go_simp
    have e1 : v1.cell? ⟨w.heap.size, 1, none⟩ = some (.bool a1) := by rw [hc _ _ (by simp <;> omega)]; go_simp
    have e2 : v1.cell? ⟨w.heap.size, 2, none⟩ = some (.int .i64 a2) := by rw [hc _ _ (by simp <;> omega)]; go_simp
    have e3 : v1.cell? ⟨w.heap.size, 3, none⟩ = some (.int .i64 a3) := by rw [hc _ _ (by simp <;> omega)]; go_simp
    have e4 : v1.cell? ⟨w.heap.size + 1, 0, none⟩ = some (.int .u32 b0) := by rw [hc _ _ (by simp <;> omega)]; go_simp
    have e5 : v1.cell? ⟨w.heap.size + 1, 1, none⟩ = some (.bool b1) := by rw [hc _ _ (by simp <;> omega)]; go_simp
    have e6 : v1.cell? ⟨w.heap.size + 1, 2, none⟩ = some (.int .i64 b2) := by rw [hc _ _ (by simp <;> omega)]; go_simp
    have e7 : v1.cell? ⟨w.heap.size + 1, 3, none⟩ = some (.int .i64 b3) := by rw [hc _ _ (by simp <;> omega)]; go_simp
    have e8 : v1.cell? ⟨w.heap.size + 1, 4, none⟩ = some (.int .i64 b4) := by rw [hc _ _ (by simp <;> omega)]; go_simp
    have e9 : v1.cell? ⟨w.heap.size + 1, 5, none⟩ = some (.int .i64 b5) := by rw [hc _ _ (by simp <;> omega)]; go_simp
    have HB := Aside0.mk (below_box (below_box hb1))
    clear hc hf hb1
    go_region_held3 (fun W => W.cell? ⟨w.heap.size, 0, none⟩ = some (.int .u32 a0) ∧ W.cell? ⟨w.heap.size, 1, none⟩ = some (.bool a1) ∧ W.cell? ⟨w.heap.size, 2, none⟩ = some (.int .i64 a2) ∧ W.cell? ⟨w.heap.size, 3, none⟩ = some (.int .i64 a3) ∧ W.cell? ⟨w.heap.size + 1, 0, none⟩ = some (.int .u32 b0) ∧ W.cell? ⟨w.heap.size + 1, 1, none⟩ = some (.bool b1) ∧ W.cell? ⟨w.heap.size + 1, 2, none⟩ = some (.int .i64 b2) ∧ W.cell? ⟨w.heap.size + 1, 3, none⟩ = some (.int .i64 b3) ∧ W.cell? ⟨w.heap.size + 1, 4, none⟩ = some (.int .i64 b4) ∧ W.cell? ⟨w.heap.size + 1, 5, none⟩ = some (.int .i64 b5) ∧ Aside0 (Below w.heap.size w W) ∧ w.heap.size + 1 < W.heap.size)
      (first
        | (refine ⟨e0, e1, e2, e3, e4, e5, e6, e7, e8, e9, ⟨HB.out.drew⟩, hz⟩)
        | (go_split_ands
           have hsz3 := hb3.size
           refine ⟨?_, ?_, ?_, ?_, ?_, ?_, ?_, ?_, ?_, ?_, ⟨?_⟩, ?_⟩
           · (rw [(bcell hb3).1 _ _ (by omega)]; assumption)
           · (rw [(bcell hb3).1 _ _ (by omega)]; assumption)
           · (rw [(bcell hb3).1 _ _ (by omega)]; assumption)
           · (rw [(bcell hb3).1 _ _ (by omega)]; assumption)
           · (rw [(bcell hb3).1 _ _ (by omega)]; assumption)
           · (rw [(bcell hb3).1 _ _ (by omega)]; assumption)
           · (rw [(bcell hb3).1 _ _ (by omega)]; assumption)
           · (rw [(bcell hb3).1 _ _ (by omega)]; assumption)
           · (rw [(bcell hb3).1 _ _ (by omega)]; assumption)
           · (rw [(bcell hb3).1 _ _ (by omega)]; assumption)
           · exact below_step (Aside0.out (by assumption)) hb3
           · omega))
      (first
        | (go_simp; go_at_call 20; refine (co.out _).mono ?_; rintro e v3 ⟨rfl, hb3⟩))
    go_wp2
    go_ret
    go_split_ands
    exact ⟨show Ending.returned (Value.int .i64 (4 + q + 4 + a3 * a2)) = _ from by rw [HE.out], Aside0.out (by assumption)⟩
end Go.Proofs.Ytdnidnonjbjgmaa.Ext
