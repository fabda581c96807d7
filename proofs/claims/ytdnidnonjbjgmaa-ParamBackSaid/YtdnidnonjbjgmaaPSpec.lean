/- The sets of parameters, plainly: LM-OTS, LMS and XMSS by their codes. -/
import Derived.Test.YtdnidnonjbjgmaaBase
namespace Go.Proofs.Ytdnidnonjbjgmaa.Spec

def fBytes (f : Int) : Int := if f = 1 ∨ f = 3 then 24 else 32
def fShake (f : Int) : Bool := decide (2 ≤ f)

/-- The sets of LM-OTS: shake, n, w, p, ls. -/
def otsTab : Nat → Option (Bool × Int × Int × Int × Int)
  | 1 => some (false, 32, 1, 265, 7)
  | 2 => some (false, 32, 2, 133, 6)
  | 3 => some (false, 32, 4, 67, 4)
  | 4 => some (false, 32, 8, 34, 0)
  | 5 => some (false, 24, 1, 200, 8)
  | 6 => some (false, 24, 2, 101, 6)
  | 7 => some (false, 24, 4, 51, 4)
  | 8 => some (false, 24, 8, 26, 0)
  | 9 => some (true, 32, 1, 265, 7)
  | 10 => some (true, 32, 2, 133, 6)
  | 11 => some (true, 32, 4, 67, 4)
  | 12 => some (true, 32, 8, 34, 0)
  | 13 => some (true, 24, 1, 200, 8)
  | 14 => some (true, 24, 2, 101, 6)
  | 15 => some (true, 24, 4, 51, 4)
  | 16 => some (true, 24, 8, 26, 0)
  | _ => none
theorem otsTab_big (n : Nat) (h : 16 < n) : otsTab n = none := by
  unfold otsTab
  split <;> first | omega | rfl

structure OtsR where
  (code : Int) (shake : Bool) (n w p ls : Int)
structure LmsR where
  (code : Int) (shake : Bool) (n h : Int)
structure XmsR where
  (code : Int) (shake : Bool) (n h len : Int)
def OtsR.zero : OtsR := ⟨0, false, 0, 0, 0, 0⟩
def LmsR.zero : LmsR := ⟨0, false, 0, 0⟩
def XmsR.zero : XmsR := ⟨0, false, 0, 0, 0⟩
def OtsR.enc (o : OtsR) : Value := .agg #[.int .u32 o.code, .bool o.shake, .int .i64 o.n, .int .i64 o.w, .int .i64 o.p, .int .i64 o.ls]
def LmsR.enc (o : LmsR) : Value := .agg #[.int .u32 o.code, .bool o.shake, .int .i64 o.n, .int .i64 o.h]
def XmsR.enc (o : XmsR) : Value := .agg #[.int .u32 o.code, .bool o.shake, .int .i64 o.n, .int .i64 o.h, .int .i64 o.len]

def ots (c : Int) : OtsR × Int :=
  match otsTab c.toNat with
  | some (s, n, w, p, l) => (⟨c, s, n, w, p, l⟩, 0)
  | none => (OtsR.zero, 60)

/-- family and height of one of our own -/
def ownFam (c first : Int) : Option (Int × Int) :=
  if first ≤ c ∧ c < first + 64 ∧ 1 ≤ (c - first) % 16 ∧ (c - first) % 16 ≤ 4 then some ((c - first) / 16, (c - first) % 16) else none
def lmsFam (c : Int) : Option (Int × Int) :=
  if 5 ≤ c ∧ c ≤ 24 then some ((c - 5) / 5, 5 * (c % 5 + 1)) else ownFam c 4026531840
def height (i : Int) : Int := if i = 0 then 10 else if i = 1 then 16 else 20
def xmsFam (c : Int) : Option (Int × Int) :=
  if 1 ≤ c ∧ c ≤ 3 then some (0, height (c - 1)) else if 13 ≤ c ∧ c ≤ 21 then some (1 + (c - 13) / 3, height ((c - 13) % 3)) else ownFam c 4043309056
def lms (c : Int) : LmsR × Int :=
  match lmsFam c with
  | some (f, h) => (⟨c, fShake f, fBytes f, h⟩, 0)
  | none => (LmsR.zero, 60)
def xms (c : Int) : XmsR × Int :=
  match xmsFam c with
  | some (f, h) => (⟨c, fShake f, fBytes f, h, 2 * fBytes f + 3⟩, 0)
  | none => (XmsR.zero, 60)
theorem lms_eq {c f h : Int} (e : lmsFam c = some (f, h)) : lms c = (⟨c, fShake f, fBytes f, h⟩, 0) := by unfold lms; rw [e]
theorem lms_no {c : Int} (e : lmsFam c = none) : lms c = (LmsR.zero, 60) := by unfold lms; rw [e]
theorem xms_eq {c f h : Int} (e : xmsFam c = some (f, h)) : xms c = (⟨c, fShake f, fBytes f, h, 2 * fBytes f + 3⟩, 0) := by unfold xms; rw [e]
theorem xms_no {c : Int} (e : xmsFam c = none) : xms c = (XmsR.zero, 60) := by unfold xms; rw [e]

def known (kind c : Int) : Bool :=
  if kind = 1 then (ots c).2 == 0 else if kind = 2 then (lms c).2 == 0 else if kind = 3 then (xms c).2 == 0 else false
end Go.Proofs.Ytdnidnonjbjgmaa.Spec
