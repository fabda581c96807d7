import Derived.Test.YtpdinahdcedmkaaDoorBase
import Derived.Test.YtpdinahdcedmkaaDoorMDec
/- The sets of parameters, plainly: LM-OTS, LMS and XMSS by their codes. -/
namespace Go.Proofs.YtpdinahdcedmkaaDoor.Spec

def fBytes (f : Int) : Int := if f = 1 ∨ f = 3 then 24 else 32
def fShake (f : Int) : Bool := decide (2 ≤ f)

/-- The sets of LM-OTS: shake, n, w, p, ls. -/
def otsTab : Nat → Option (Bool × Int × Int × Int × Int)
  | 1 => some (false, 32, 1, 265, 7)
  | 2 => some (false, 32, 2, 133, 6)
  | 3 => some (false, 32, 4, 67, 4)
  | 4 => some (false, 32, 8, 34, 0)
  | 5 => some (false, 24, 1, 200, 8)
  | 6 => some (false, 24, 2, 101, 6)
  | 7 => some (false, 24, 4, 51, 4)
  | 8 => some (false, 24, 8, 26, 0)
  | 9 => some (true, 32, 1, 265, 7)
  | 10 => some (true, 32, 2, 133, 6)
  | 11 => some (true, 32, 4, 67, 4)
  | 12 => some (true, 32, 8, 34, 0)
  | 13 => some (true, 24, 1, 200, 8)
  | 14 => some (true, 24, 2, 101, 6)
  | 15 => some (true, 24, 4, 51, 4)
  | 16 => some (true, 24, 8, 26, 0)
  | _ => none
theorem otsTab_big (n : Nat) (h : 16 < n) : otsTab n = none := by
  unfold otsTab
  split <;> first | omega | rfl

structure OtsR where
  (code : Int) (shake : Bool) (n w p ls : Int)
structure LmsR where
  (code : Int) (shake : Bool) (n h : Int)
structure XmsR where
  (code : Int) (shake : Bool) (n h len : Int)
def OtsR.zero : OtsR := ⟨0, false, 0, 0, 0, 0⟩
def LmsR.zero : LmsR := ⟨0, false, 0, 0⟩
def XmsR.zero : XmsR := ⟨0, false, 0, 0, 0⟩
def OtsR.enc (o : OtsR) : Value := .agg #[.int .u32 o.code, .bool o.shake, .int .i64 o.n, .int .i64 o.w, .int .i64 o.p, .int .i64 o.ls]
def LmsR.enc (o : LmsR) : Value := .agg #[.int .u32 o.code, .bool o.shake, .int .i64 o.n, .int .i64 o.h]
def XmsR.enc (o : XmsR) : Value := .agg #[.int .u32 o.code, .bool o.shake, .int .i64 o.n, .int .i64 o.h, .int .i64 o.len]

def ots (c : Int) : OtsR × Int :=
  match otsTab c.toNat with
  | some (s, n, w, p, l) => (⟨c, s, n, w, p, l⟩, 0)
  | none => (OtsR.zero, 60)

/-- family and height of one of our own -/
def ownFam (c first : Int) : Option (Int × Int) :=
  if first ≤ c ∧ c < first + 64 ∧ 1 ≤ (c - first) % 16 ∧ (c - first) % 16 ≤ 4 then some ((c - first) / 16, (c - first) % 16) else none
def lmsFam (c : Int) : Option (Int × Int) :=
  if 5 ≤ c ∧ c ≤ 24 then some ((c - 5) / 5, 5 * (c % 5 + 1)) else ownFam c 4026531840
def height (i : Int) : Int := if i = 0 then 10 else if i = 1 then 16 else 20
def xmsFam (c : Int) : Option (Int × Int) :=
  if 1 ≤ c ∧ c ≤ 3 then some (0, height (c - 1)) else if 13 ≤ c ∧ c ≤ 21 then some (1 + (c - 13) / 3, height ((c - 13) % 3)) else ownFam c 4043309056
def lms (c : Int) : LmsR × Int :=
  match lmsFam c with
  | some (f, h) => (⟨c, fShake f, fBytes f, h⟩, 0)
  | none => (LmsR.zero, 60)
def xms (c : Int) : XmsR × Int :=
  match xmsFam c with
  | some (f, h) => (⟨c, fShake f, fBytes f, h, 2 * fBytes f + 3⟩, 0)
  | none => (XmsR.zero, 60)
theorem lms_eq {c f h : Int} (e : lmsFam c = some (f, h)) : lms c = (⟨c, fShake f, fBytes f, h⟩, 0) := by unfold lms; rw [e]
theorem lms_no {c : Int} (e : lmsFam c = none) : lms c = (LmsR.zero, 60) := by unfold lms; rw [e]
theorem xms_eq {c f h : Int} (e : xmsFam c = some (f, h)) : xms c = (⟨c, fShake f, fBytes f, h, 2 * fBytes f + 3⟩, 0) := by unfold xms; rw [e]
theorem xms_no {c : Int} (e : xmsFam c = none) : xms c = (XmsR.zero, 60) := by unfold xms; rw [e]

def known (kind c : Int) : Bool :=
  if kind = 1 then (ots c).2 == 0 else if kind = 2 then (lms c).2 == 0 else if kind = 3 then (xms c).2 == 0 else false
end Go.Proofs.YtpdinahdcedmkaaDoor.Spec
/- param.Ots returns the set of its code, or ErrCode: for any uint32, in any memory. -/
namespace Go.Proofs.YtpdinahdcedmkaaDoor.ExtP
open Go.Proofs.YtpdinahdcedmkaaDoor.Ext
open Go.RowKit Go.Proofs.YtpdinahdcedmkaaDoorW.PrintWords Go.Proofs.YtpdinahdcedmkaaDoorW.PrintLast Go.Proofs.YtpdinahdcedmkaaDoorW.PrintMore

set_option maxHeartbeats 1000000 in
set_option maxRecDepth 100000 in
theorem ots1 (w : World) : Calls Tryd.prog 87 #[.int .u32 1] w fun e w' => e = .returned (.tuple #[.agg #[.int .u32 1, .bool false, .int .i64 32, .int .i64 1, .int .i64 265, .int .i64 7], .int .i64 0]) ∧ Below w.heap.size w w' := by
  go_enter Tryd.func87, Tryd.ntmps87
  go_wp2
  go_loop [8] (fun v => ∃ k : Nat, 1 ≤ k ∧ k ≤ 9 ∧ v = .int .i64 k) (fun v => 9 - (intOf v).toNat)
  case atStart => exact ⟨1, by omega, by omega, rfl⟩
  case round =>
    obtain ⟨k, h1, h2, rfl⟩ := hrel
    obtain h | h | h | h | h | h | h | h | h : k = 1 ∨ k = 2 ∨ k = 3 ∨ k = 4 ∨ k = 5 ∨ k = 6 ∨ k = 7 ∨ k = 8 ∨ k = 9 := by omega
    · subst h; clear h1 h2
      go_wp2
      go_round
      case rel => exact ⟨2, by omega, by omega, rfl⟩
      case measure => simp [intOf]
    · subst h; clear h1 h2
      go_wp2
      go_round
      case rel => exact ⟨3, by omega, by omega, rfl⟩
      case measure => simp [intOf]
    · subst h; clear h1 h2
      go_wp2
      go_round
      case rel => exact ⟨4, by omega, by omega, rfl⟩
      case measure => simp [intOf]
    · subst h; clear h1 h2
      go_wp2
      go_round
      case rel => exact ⟨5, by omega, by omega, rfl⟩
      case measure => simp [intOf]
    · subst h; clear h1 h2
      go_wp2
      go_round
      case rel => exact ⟨6, by omega, by omega, rfl⟩
      case measure => simp [intOf]
    · subst h; clear h1 h2
      go_wp2
      go_round
      case rel => exact ⟨7, by omega, by omega, rfl⟩
      case measure => simp [intOf]
    · subst h; clear h1 h2
      go_wp2
      go_round
      case rel => exact ⟨8, by omega, by omega, rfl⟩
      case measure => simp [intOf]
    · subst h; clear h1 h2
      go_wp2
      go_round
      case rel => exact ⟨9, by omega, by omega, rfl⟩
      case measure => simp [intOf]
    · subst h; clear h1 h2
      go_wp2
      exact bodyPost_ret (v := .tuple #[.agg #[.int .u32 1, .bool false, .int .i64 32, .int .i64 1, .int .i64 265, .int .i64 7], .int .i64 0]) (by simp [results, Tryd.results87, go_sem]) rfl ⟨rfl, (Below.refl _ _).alloc (Nat.le_refl _) _⟩
set_option maxHeartbeats 1000000 in
set_option maxRecDepth 100000 in
theorem ots2 (w : World) : Calls Tryd.prog 87 #[.int .u32 2] w fun e w' => e = .returned (.tuple #[.agg #[.int .u32 2, .bool false, .int .i64 32, .int .i64 2, .int .i64 133, .int .i64 6], .int .i64 0]) ∧ Below w.heap.size w w' := by
  go_enter Tryd.func87, Tryd.ntmps87
  go_wp2
  go_loop [8] (fun v => ∃ k : Nat, 1 ≤ k ∧ k ≤ 5 ∧ v = .int .i64 k) (fun v => 5 - (intOf v).toNat)
  case atStart => exact ⟨1, by omega, by omega, rfl⟩
  case round =>
    obtain ⟨k, h1, h2, rfl⟩ := hrel
    obtain h | h | h | h | h : k = 1 ∨ k = 2 ∨ k = 3 ∨ k = 4 ∨ k = 5 := by omega
    · subst h; clear h1 h2
      go_wp2
      go_round
      case rel => exact ⟨2, by omega, by omega, rfl⟩
      case measure => simp [intOf]
    · subst h; clear h1 h2
      go_wp2
      go_round
      case rel => exact ⟨3, by omega, by omega, rfl⟩
      case measure => simp [intOf]
    · subst h; clear h1 h2
      go_wp2
      go_round
      case rel => exact ⟨4, by omega, by omega, rfl⟩
      case measure => simp [intOf]
    · subst h; clear h1 h2
      go_wp2
      go_round
      case rel => exact ⟨5, by omega, by omega, rfl⟩
      case measure => simp [intOf]
    · subst h; clear h1 h2
      go_wp2
      exact bodyPost_ret (v := .tuple #[.agg #[.int .u32 2, .bool false, .int .i64 32, .int .i64 2, .int .i64 133, .int .i64 6], .int .i64 0]) (by simp [results, Tryd.results87, go_sem]) rfl ⟨rfl, (Below.refl _ _).alloc (Nat.le_refl _) _⟩
set_option maxHeartbeats 1000000 in
set_option maxRecDepth 100000 in
theorem ots3 (w : World) : Calls Tryd.prog 87 #[.int .u32 3] w fun e w' => e = .returned (.tuple #[.agg #[.int .u32 3, .bool false, .int .i64 32, .int .i64 4, .int .i64 67, .int .i64 4], .int .i64 0]) ∧ Below w.heap.size w w' := by
  go_enter Tryd.func87, Tryd.ntmps87
  go_wp2
  go_loop [8] (fun v => ∃ k : Nat, 1 ≤ k ∧ k ≤ 3 ∧ v = .int .i64 k) (fun v => 3 - (intOf v).toNat)
  case atStart => exact ⟨1, by omega, by omega, rfl⟩
  case round =>
    obtain ⟨k, h1, h2, rfl⟩ := hrel
    obtain h | h | h : k = 1 ∨ k = 2 ∨ k = 3 := by omega
    · subst h; clear h1 h2
      go_wp2
      go_round
      case rel => exact ⟨2, by omega, by omega, rfl⟩
      case measure => simp [intOf]
    · subst h; clear h1 h2
      go_wp2
      go_round
      case rel => exact ⟨3, by omega, by omega, rfl⟩
      case measure => simp [intOf]
    · subst h; clear h1 h2
      go_wp2
      exact bodyPost_ret (v := .tuple #[.agg #[.int .u32 3, .bool false, .int .i64 32, .int .i64 4, .int .i64 67, .int .i64 4], .int .i64 0]) (by simp [results, Tryd.results87, go_sem]) rfl ⟨rfl, (Below.refl _ _).alloc (Nat.le_refl _) _⟩
set_option maxHeartbeats 1000000 in
set_option maxRecDepth 100000 in
theorem ots4 (w : World) : Calls Tryd.prog 87 #[.int .u32 4] w fun e w' => e = .returned (.tuple #[.agg #[.int .u32 4, .bool false, .int .i64 32, .int .i64 8, .int .i64 34, .int .i64 0], .int .i64 0]) ∧ Below w.heap.size w w' := by
  go_enter Tryd.func87, Tryd.ntmps87
  go_wp2
  go_loop [8] (fun v => ∃ k : Nat, 1 ≤ k ∧ k ≤ 2 ∧ v = .int .i64 k) (fun v => 2 - (intOf v).toNat)
  case atStart => exact ⟨1, by omega, by omega, rfl⟩
  case round =>
    obtain ⟨k, h1, h2, rfl⟩ := hrel
    obtain h | h : k = 1 ∨ k = 2 := by omega
    · subst h; clear h1 h2
      go_wp2
      go_round
      case rel => exact ⟨2, by omega, by omega, rfl⟩
      case measure => simp [intOf]
    · subst h; clear h1 h2
      go_wp2
      exact bodyPost_ret (v := .tuple #[.agg #[.int .u32 4, .bool false, .int .i64 32, .int .i64 8, .int .i64 34, .int .i64 0], .int .i64 0]) (by simp [results, Tryd.results87, go_sem]) rfl ⟨rfl, (Below.refl _ _).alloc (Nat.le_refl _) _⟩
set_option maxHeartbeats 1000000 in
set_option maxRecDepth 100000 in
theorem ots5 (w : World) : Calls Tryd.prog 87 #[.int .u32 5] w fun e w' => e = .returned (.tuple #[.agg #[.int .u32 5, .bool false, .int .i64 24, .int .i64 1, .int .i64 200, .int .i64 8], .int .i64 0]) ∧ Below w.heap.size w w' := by
  go_enter Tryd.func87, Tryd.ntmps87
  go_wp2
  go_loop [8] (fun v => ∃ k : Nat, 1 ≤ k ∧ k ≤ 8 ∧ v = .int .i64 k) (fun v => 8 - (intOf v).toNat)
  case atStart => exact ⟨1, by omega, by omega, rfl⟩
  case round =>
    obtain ⟨k, h1, h2, rfl⟩ := hrel
    obtain h | h | h | h | h | h | h | h : k = 1 ∨ k = 2 ∨ k = 3 ∨ k = 4 ∨ k = 5 ∨ k = 6 ∨ k = 7 ∨ k = 8 := by omega
    · subst h; clear h1 h2
      go_wp2
      go_round
      case rel => exact ⟨2, by omega, by omega, rfl⟩
      case measure => simp [intOf]
    · subst h; clear h1 h2
      go_wp2
      go_round
      case rel => exact ⟨3, by omega, by omega, rfl⟩
      case measure => simp [intOf]
    · subst h; clear h1 h2
      go_wp2
      go_round
      case rel => exact ⟨4, by omega, by omega, rfl⟩
      case measure => simp [intOf]
    · subst h; clear h1 h2
      go_wp2
      go_round
      case rel => exact ⟨5, by omega, by omega, rfl⟩
      case measure => simp [intOf]
    · subst h; clear h1 h2
      go_wp2
      go_round
      case rel => exact ⟨6, by omega, by omega, rfl⟩
      case measure => simp [intOf]
    · subst h; clear h1 h2
      go_wp2
      go_round
      case rel => exact ⟨7, by omega, by omega, rfl⟩
      case measure => simp [intOf]
    · subst h; clear h1 h2
      go_wp2
      go_round
      case rel => exact ⟨8, by omega, by omega, rfl⟩
      case measure => simp [intOf]
    · subst h; clear h1 h2
      go_wp2
      exact bodyPost_ret (v := .tuple #[.agg #[.int .u32 5, .bool false, .int .i64 24, .int .i64 1, .int .i64 200, .int .i64 8], .int .i64 0]) (by simp [results, Tryd.results87, go_sem]) rfl ⟨rfl, (Below.refl _ _).alloc (Nat.le_refl _) _⟩
set_option maxHeartbeats 1000000 in
set_option maxRecDepth 100000 in
theorem ots6 (w : World) : Calls Tryd.prog 87 #[.int .u32 6] w fun e w' => e = .returned (.tuple #[.agg #[.int .u32 6, .bool false, .int .i64 24, .int .i64 2, .int .i64 101, .int .i64 6], .int .i64 0]) ∧ Below w.heap.size w w' := by
  go_enter Tryd.func87, Tryd.ntmps87
  go_wp2
  go_loop [8] (fun v => ∃ k : Nat, 1 ≤ k ∧ k ≤ 5 ∧ v = .int .i64 k) (fun v => 5 - (intOf v).toNat)
  case atStart => exact ⟨1, by omega, by omega, rfl⟩
  case round =>
    obtain ⟨k, h1, h2, rfl⟩ := hrel
    obtain h | h | h | h | h : k = 1 ∨ k = 2 ∨ k = 3 ∨ k = 4 ∨ k = 5 := by omega
    · subst h; clear h1 h2
      go_wp2
      go_round
      case rel => exact ⟨2, by omega, by omega, rfl⟩
      case measure => simp [intOf]
    · subst h; clear h1 h2
      go_wp2
      go_round
      case rel => exact ⟨3, by omega, by omega, rfl⟩
      case measure => simp [intOf]
    · subst h; clear h1 h2
      go_wp2
      go_round
      case rel => exact ⟨4, by omega, by omega, rfl⟩
      case measure => simp [intOf]
    · subst h; clear h1 h2
      go_wp2
      go_round
      case rel => exact ⟨5, by omega, by omega, rfl⟩
      case measure => simp [intOf]
    · subst h; clear h1 h2
      go_wp2
      exact bodyPost_ret (v := .tuple #[.agg #[.int .u32 6, .bool false, .int .i64 24, .int .i64 2, .int .i64 101, .int .i64 6], .int .i64 0]) (by simp [results, Tryd.results87, go_sem]) rfl ⟨rfl, (Below.refl _ _).alloc (Nat.le_refl _) _⟩
set_option maxHeartbeats 1000000 in
set_option maxRecDepth 100000 in
theorem ots7 (w : World) : Calls Tryd.prog 87 #[.int .u32 7] w fun e w' => e = .returned (.tuple #[.agg #[.int .u32 7, .bool false, .int .i64 24, .int .i64 4, .int .i64 51, .int .i64 4], .int .i64 0]) ∧ Below w.heap.size w w' := by
  go_enter Tryd.func87, Tryd.ntmps87
  go_wp2
  go_loop [8] (fun v => ∃ k : Nat, 1 ≤ k ∧ k ≤ 3 ∧ v = .int .i64 k) (fun v => 3 - (intOf v).toNat)
  case atStart => exact ⟨1, by omega, by omega, rfl⟩
  case round =>
    obtain ⟨k, h1, h2, rfl⟩ := hrel
    obtain h | h | h : k = 1 ∨ k = 2 ∨ k = 3 := by omega
    · subst h; clear h1 h2
      go_wp2
      go_round
      case rel => exact ⟨2, by omega, by omega, rfl⟩
      case measure => simp [intOf]
    · subst h; clear h1 h2
      go_wp2
      go_round
      case rel => exact ⟨3, by omega, by omega, rfl⟩
      case measure => simp [intOf]
    · subst h; clear h1 h2
      go_wp2
      exact bodyPost_ret (v := .tuple #[.agg #[.int .u32 7, .bool false, .int .i64 24, .int .i64 4, .int .i64 51, .int .i64 4], .int .i64 0]) (by simp [results, Tryd.results87, go_sem]) rfl ⟨rfl, (Below.refl _ _).alloc (Nat.le_refl _) _⟩
set_option maxHeartbeats 1000000 in
set_option maxRecDepth 100000 in
theorem ots8 (w : World) : Calls Tryd.prog 87 #[.int .u32 8] w fun e w' => e = .returned (.tuple #[.agg #[.int .u32 8, .bool false, .int .i64 24, .int .i64 8, .int .i64 26, .int .i64 0], .int .i64 0]) ∧ Below w.heap.size w w' := by
  go_enter Tryd.func87, Tryd.ntmps87
  go_wp2
  go_loop [8] (fun v => ∃ k : Nat, 1 ≤ k ∧ k ≤ 2 ∧ v = .int .i64 k) (fun v => 2 - (intOf v).toNat)
  case atStart => exact ⟨1, by omega, by omega, rfl⟩
  case round =>
    obtain ⟨k, h1, h2, rfl⟩ := hrel
    obtain h | h : k = 1 ∨ k = 2 := by omega
    · subst h; clear h1 h2
      go_wp2
      go_round
      case rel => exact ⟨2, by omega, by omega, rfl⟩
      case measure => simp [intOf]
    · subst h; clear h1 h2
      go_wp2
      exact bodyPost_ret (v := .tuple #[.agg #[.int .u32 8, .bool false, .int .i64 24, .int .i64 8, .int .i64 26, .int .i64 0], .int .i64 0]) (by simp [results, Tryd.results87, go_sem]) rfl ⟨rfl, (Below.refl _ _).alloc (Nat.le_refl _) _⟩
set_option maxHeartbeats 1000000 in
set_option maxRecDepth 100000 in
theorem ots9 (w : World) : Calls Tryd.prog 87 #[.int .u32 9] w fun e w' => e = .returned (.tuple #[.agg #[.int .u32 9, .bool true, .int .i64 32, .int .i64 1, .int .i64 265, .int .i64 7], .int .i64 0]) ∧ Below w.heap.size w w' := by
  go_enter Tryd.func87, Tryd.ntmps87
  go_wp2
  go_loop [8] (fun v => ∃ k : Nat, 1 ≤ k ∧ k ≤ 9 ∧ v = .int .i64 k) (fun v => 9 - (intOf v).toNat)
  case atStart => exact ⟨1, by omega, by omega, rfl⟩
  case round =>
    obtain ⟨k, h1, h2, rfl⟩ := hrel
    obtain h | h | h | h | h | h | h | h | h : k = 1 ∨ k = 2 ∨ k = 3 ∨ k = 4 ∨ k = 5 ∨ k = 6 ∨ k = 7 ∨ k = 8 ∨ k = 9 := by omega
    · subst h; clear h1 h2
      go_wp2
      go_round
      case rel => exact ⟨2, by omega, by omega, rfl⟩
      case measure => simp [intOf]
    · subst h; clear h1 h2
      go_wp2
      go_round
      case rel => exact ⟨3, by omega, by omega, rfl⟩
      case measure => simp [intOf]
    · subst h; clear h1 h2
      go_wp2
      go_round
      case rel => exact ⟨4, by omega, by omega, rfl⟩
      case measure => simp [intOf]
    · subst h; clear h1 h2
      go_wp2
      go_round
      case rel => exact ⟨5, by omega, by omega, rfl⟩
      case measure => simp [intOf]
    · subst h; clear h1 h2
      go_wp2
      go_round
      case rel => exact ⟨6, by omega, by omega, rfl⟩
      case measure => simp [intOf]
    · subst h; clear h1 h2
      go_wp2
      go_round
      case rel => exact ⟨7, by omega, by omega, rfl⟩
      case measure => simp [intOf]
    · subst h; clear h1 h2
      go_wp2
      go_round
      case rel => exact ⟨8, by omega, by omega, rfl⟩
      case measure => simp [intOf]
    · subst h; clear h1 h2
      go_wp2
      go_round
      case rel => exact ⟨9, by omega, by omega, rfl⟩
      case measure => simp [intOf]
    · subst h; clear h1 h2
      go_wp2
      exact bodyPost_ret (v := .tuple #[.agg #[.int .u32 9, .bool true, .int .i64 32, .int .i64 1, .int .i64 265, .int .i64 7], .int .i64 0]) (by simp [results, Tryd.results87, go_sem]) rfl ⟨rfl, (Below.refl _ _).alloc (Nat.le_refl _) _⟩
set_option maxHeartbeats 1000000 in
set_option maxRecDepth 100000 in
theorem ots10 (w : World) : Calls Tryd.prog 87 #[.int .u32 10] w fun e w' => e = .returned (.tuple #[.agg #[.int .u32 10, .bool true, .int .i64 32, .int .i64 2, .int .i64 133, .int .i64 6], .int .i64 0]) ∧ Below w.heap.size w w' := by
  go_enter Tryd.func87, Tryd.ntmps87
  go_wp2
  go_loop [8] (fun v => ∃ k : Nat, 1 ≤ k ∧ k ≤ 5 ∧ v = .int .i64 k) (fun v => 5 - (intOf v).toNat)
  case atStart => exact ⟨1, by omega, by omega, rfl⟩
  case round =>
    obtain ⟨k, h1, h2, rfl⟩ := hrel
    obtain h | h | h | h | h : k = 1 ∨ k = 2 ∨ k = 3 ∨ k = 4 ∨ k = 5 := by omega
    · subst h; clear h1 h2
      go_wp2
      go_round
      case rel => exact ⟨2, by omega, by omega, rfl⟩
      case measure => simp [intOf]
    · subst h; clear h1 h2
      go_wp2
      go_round
      case rel => exact ⟨3, by omega, by omega, rfl⟩
      case measure => simp [intOf]
    · subst h; clear h1 h2
      go_wp2
      go_round
      case rel => exact ⟨4, by omega, by omega, rfl⟩
      case measure => simp [intOf]
    · subst h; clear h1 h2
      go_wp2
      go_round
      case rel => exact ⟨5, by omega, by omega, rfl⟩
      case measure => simp [intOf]
    · subst h; clear h1 h2
      go_wp2
      exact bodyPost_ret (v := .tuple #[.agg #[.int .u32 10, .bool true, .int .i64 32, .int .i64 2, .int .i64 133, .int .i64 6], .int .i64 0]) (by simp [results, Tryd.results87, go_sem]) rfl ⟨rfl, (Below.refl _ _).alloc (Nat.le_refl _) _⟩
set_option maxHeartbeats 1000000 in
set_option maxRecDepth 100000 in
theorem ots11 (w : World) : Calls Tryd.prog 87 #[.int .u32 11] w fun e w' => e = .returned (.tuple #[.agg #[.int .u32 11, .bool true, .int .i64 32, .int .i64 4, .int .i64 67, .int .i64 4], .int .i64 0]) ∧ Below w.heap.size w w' := by
  go_enter Tryd.func87, Tryd.ntmps87
  go_wp2
  go_loop [8] (fun v => ∃ k : Nat, 1 ≤ k ∧ k ≤ 3 ∧ v = .int .i64 k) (fun v => 3 - (intOf v).toNat)
  case atStart => exact ⟨1, by omega, by omega, rfl⟩
  case round =>
    obtain ⟨k, h1, h2, rfl⟩ := hrel
    obtain h | h | h : k = 1 ∨ k = 2 ∨ k = 3 := by omega
    · subst h; clear h1 h2
      go_wp2
      go_round
      case rel => exact ⟨2, by omega, by omega, rfl⟩
      case measure => simp [intOf]
    · subst h; clear h1 h2
      go_wp2
      go_round
      case rel => exact ⟨3, by omega, by omega, rfl⟩
      case measure => simp [intOf]
    · subst h; clear h1 h2
      go_wp2
      exact bodyPost_ret (v := .tuple #[.agg #[.int .u32 11, .bool true, .int .i64 32, .int .i64 4, .int .i64 67, .int .i64 4], .int .i64 0]) (by simp [results, Tryd.results87, go_sem]) rfl ⟨rfl, (Below.refl _ _).alloc (Nat.le_refl _) _⟩
set_option maxHeartbeats 1000000 in
set_option maxRecDepth 100000 in
theorem ots12 (w : World) : Calls Tryd.prog 87 #[.int .u32 12] w fun e w' => e = .returned (.tuple #[.agg #[.int .u32 12, .bool true, .int .i64 32, .int .i64 8, .int .i64 34, .int .i64 0], .int .i64 0]) ∧ Below w.heap.size w w' := by
  go_enter Tryd.func87, Tryd.ntmps87
  go_wp2
  go_loop [8] (fun v => ∃ k : Nat, 1 ≤ k ∧ k ≤ 2 ∧ v = .int .i64 k) (fun v => 2 - (intOf v).toNat)
  case atStart => exact ⟨1, by omega, by omega, rfl⟩
  case round =>
    obtain ⟨k, h1, h2, rfl⟩ := hrel
    obtain h | h : k = 1 ∨ k = 2 := by omega
    · subst h; clear h1 h2
      go_wp2
      go_round
      case rel => exact ⟨2, by omega, by omega, rfl⟩
      case measure => simp [intOf]
    · subst h; clear h1 h2
      go_wp2
      exact bodyPost_ret (v := .tuple #[.agg #[.int .u32 12, .bool true, .int .i64 32, .int .i64 8, .int .i64 34, .int .i64 0], .int .i64 0]) (by simp [results, Tryd.results87, go_sem]) rfl ⟨rfl, (Below.refl _ _).alloc (Nat.le_refl _) _⟩
set_option maxHeartbeats 1000000 in
set_option maxRecDepth 100000 in
theorem ots13 (w : World) : Calls Tryd.prog 87 #[.int .u32 13] w fun e w' => e = .returned (.tuple #[.agg #[.int .u32 13, .bool true, .int .i64 24, .int .i64 1, .int .i64 200, .int .i64 8], .int .i64 0]) ∧ Below w.heap.size w w' := by
  go_enter Tryd.func87, Tryd.ntmps87
  go_wp2
  go_loop [8] (fun v => ∃ k : Nat, 1 ≤ k ∧ k ≤ 8 ∧ v = .int .i64 k) (fun v => 8 - (intOf v).toNat)
  case atStart => exact ⟨1, by omega, by omega, rfl⟩
  case round =>
    obtain ⟨k, h1, h2, rfl⟩ := hrel
    obtain h | h | h | h | h | h | h | h : k = 1 ∨ k = 2 ∨ k = 3 ∨ k = 4 ∨ k = 5 ∨ k = 6 ∨ k = 7 ∨ k = 8 := by omega
    · subst h; clear h1 h2
      go_wp2
      go_round
      case rel => exact ⟨2, by omega, by omega, rfl⟩
      case measure => simp [intOf]
    · subst h; clear h1 h2
      go_wp2
      go_round
      case rel => exact ⟨3, by omega, by omega, rfl⟩
      case measure => simp [intOf]
    · subst h; clear h1 h2
      go_wp2
      go_round
      case rel => exact ⟨4, by omega, by omega, rfl⟩
      case measure => simp [intOf]
    · subst h; clear h1 h2
      go_wp2
      go_round
      case rel => exact ⟨5, by omega, by omega, rfl⟩
      case measure => simp [intOf]
    · subst h; clear h1 h2
      go_wp2
      go_round
      case rel => exact ⟨6, by omega, by omega, rfl⟩
      case measure => simp [intOf]
    · subst h; clear h1 h2
      go_wp2
      go_round
      case rel => exact ⟨7, by omega, by omega, rfl⟩
      case measure => simp [intOf]
    · subst h; clear h1 h2
      go_wp2
      go_round
      case rel => exact ⟨8, by omega, by omega, rfl⟩
      case measure => simp [intOf]
    · subst h; clear h1 h2
      go_wp2
      exact bodyPost_ret (v := .tuple #[.agg #[.int .u32 13, .bool true, .int .i64 24, .int .i64 1, .int .i64 200, .int .i64 8], .int .i64 0]) (by simp [results, Tryd.results87, go_sem]) rfl ⟨rfl, (Below.refl _ _).alloc (Nat.le_refl _) _⟩
set_option maxHeartbeats 1000000 in
set_option maxRecDepth 100000 in
theorem ots14 (w : World) : Calls Tryd.prog 87 #[.int .u32 14] w fun e w' => e = .returned (.tuple #[.agg #[.int .u32 14, .bool true, .int .i64 24, .int .i64 2, .int .i64 101, .int .i64 6], .int .i64 0]) ∧ Below w.heap.size w w' := by
  go_enter Tryd.func87, Tryd.ntmps87
  go_wp2
  go_loop [8] (fun v => ∃ k : Nat, 1 ≤ k ∧ k ≤ 5 ∧ v = .int .i64 k) (fun v => 5 - (intOf v).toNat)
  case atStart => exact ⟨1, by omega, by omega, rfl⟩
  case round =>
    obtain ⟨k, h1, h2, rfl⟩ := hrel
    obtain h | h | h | h | h : k = 1 ∨ k = 2 ∨ k = 3 ∨ k = 4 ∨ k = 5 := by omega
    · subst h; clear h1 h2
      go_wp2
      go_round
      case rel => exact ⟨2, by omega, by omega, rfl⟩
      case measure => simp [intOf]
    · subst h; clear h1 h2
      go_wp2
      go_round
      case rel => exact ⟨3, by omega, by omega, rfl⟩
      case measure => simp [intOf]
    · subst h; clear h1 h2
      go_wp2
      go_round
      case rel => exact ⟨4, by omega, by omega, rfl⟩
      case measure => simp [intOf]
    · subst h; clear h1 h2
      go_wp2
      go_round
      case rel => exact ⟨5, by omega, by omega, rfl⟩
      case measure => simp [intOf]
    · subst h; clear h1 h2
      go_wp2
      exact bodyPost_ret (v := .tuple #[.agg #[.int .u32 14, .bool true, .int .i64 24, .int .i64 2, .int .i64 101, .int .i64 6], .int .i64 0]) (by simp [results, Tryd.results87, go_sem]) rfl ⟨rfl, (Below.refl _ _).alloc (Nat.le_refl _) _⟩
set_option maxHeartbeats 1000000 in
set_option maxRecDepth 100000 in
theorem ots15 (w : World) : Calls Tryd.prog 87 #[.int .u32 15] w fun e w' => e = .returned (.tuple #[.agg #[.int .u32 15, .bool true, .int .i64 24, .int .i64 4, .int .i64 51, .int .i64 4], .int .i64 0]) ∧ Below w.heap.size w w' := by
  go_enter Tryd.func87, Tryd.ntmps87
  go_wp2
  go_loop [8] (fun v => ∃ k : Nat, 1 ≤ k ∧ k ≤ 3 ∧ v = .int .i64 k) (fun v => 3 - (intOf v).toNat)
  case atStart => exact ⟨1, by omega, by omega, rfl⟩
  case round =>
    obtain ⟨k, h1, h2, rfl⟩ := hrel
    obtain h | h | h : k = 1 ∨ k = 2 ∨ k = 3 := by omega
    · subst h; clear h1 h2
      go_wp2
      go_round
      case rel => exact ⟨2, by omega, by omega, rfl⟩
      case measure => simp [intOf]
    · subst h; clear h1 h2
      go_wp2
      go_round
      case rel => exact ⟨3, by omega, by omega, rfl⟩
      case measure => simp [intOf]
    · subst h; clear h1 h2
      go_wp2
      exact bodyPost_ret (v := .tuple #[.agg #[.int .u32 15, .bool true, .int .i64 24, .int .i64 4, .int .i64 51, .int .i64 4], .int .i64 0]) (by simp [results, Tryd.results87, go_sem]) rfl ⟨rfl, (Below.refl _ _).alloc (Nat.le_refl _) _⟩
set_option maxHeartbeats 1000000 in
set_option maxRecDepth 100000 in
theorem ots16 (w : World) : Calls Tryd.prog 87 #[.int .u32 16] w fun e w' => e = .returned (.tuple #[.agg #[.int .u32 16, .bool true, .int .i64 24, .int .i64 8, .int .i64 26, .int .i64 0], .int .i64 0]) ∧ Below w.heap.size w w' := by
  go_enter Tryd.func87, Tryd.ntmps87
  go_wp2
  go_loop [8] (fun v => ∃ k : Nat, 1 ≤ k ∧ k ≤ 2 ∧ v = .int .i64 k) (fun v => 2 - (intOf v).toNat)
  case atStart => exact ⟨1, by omega, by omega, rfl⟩
  case round =>
    obtain ⟨k, h1, h2, rfl⟩ := hrel
    obtain h | h : k = 1 ∨ k = 2 := by omega
    · subst h; clear h1 h2
      go_wp2
      go_round
      case rel => exact ⟨2, by omega, by omega, rfl⟩
      case measure => simp [intOf]
    · subst h; clear h1 h2
      go_wp2
      exact bodyPost_ret (v := .tuple #[.agg #[.int .u32 16, .bool true, .int .i64 24, .int .i64 8, .int .i64 26, .int .i64 0], .int .i64 0]) (by simp [results, Tryd.results87, go_sem]) rfl ⟨rfl, (Below.refl _ _).alloc (Nat.le_refl _) _⟩
set_option maxHeartbeats 1000000 in
set_option maxRecDepth 100000 in
theorem ots0 (w : World) : Calls Tryd.prog 87 #[.int .u32 0] w fun e w' => e = .returned (.tuple #[.agg #[.int .u32 0, .bool false, .int .i64 0, .int .i64 0, .int .i64 0, .int .i64 0], .int .i64 60]) ∧ Below w.heap.size w w' := by
  go_enter Tryd.func87, Tryd.ntmps87
  go_wp2
  exact bodyPost_ret (v := .tuple #[.agg #[.int .u32 0, .bool false, .int .i64 0, .int .i64 0, .int .i64 0, .int .i64 0], .int .i64 60]) (by simp [results, Tryd.results87, go_sem]) rfl ⟨rfl, by repeat (first | exact Below.refl _ _ | refine Below.setCell ?_ (Nat.le_refl _) _ | refine Below.alloc ?_ (Nat.le_refl _) _)⟩
set_option maxHeartbeats 1000000 in
set_option maxRecDepth 100000 in
theorem otsBig (a : Int) (h1 : 16 < a) (w : World) : Calls Tryd.prog 87 #[.int .u32 a] w fun e w' => e = .returned (.tuple #[.agg #[.int .u32 0, .bool false, .int .i64 0, .int .i64 0, .int .i64 0, .int .i64 0], .int .i64 60]) ∧ Below w.heap.size w w' := by
  have h0 : 1 ≤ a := by omega
  go_enter Tryd.func87, Tryd.ntmps87
  go_wp2
  exact bodyPost_ret (v := .tuple #[.agg #[.int .u32 0, .bool false, .int .i64 0, .int .i64 0, .int .i64 0, .int .i64 0], .int .i64 60]) (by simp [results, Tryd.results87, go_sem]) rfl ⟨rfl, by repeat (first | exact Below.refl _ _ | refine Below.setCell ?_ (Nat.le_refl _) _ | refine Below.alloc ?_ (Nat.le_refl _) _)⟩
/-- The sets of the sixteen codes: shake, n, w, p, ls. -/
def otsTab : Nat → Option (Bool × Int × Int × Int × Int)
  | 1 => some (false, 32, 1, 265, 7)
  | 2 => some (false, 32, 2, 133, 6)
  | 3 => some (false, 32, 4, 67, 4)
  | 4 => some (false, 32, 8, 34, 0)
  | 5 => some (false, 24, 1, 200, 8)
  | 6 => some (false, 24, 2, 101, 6)
  | 7 => some (false, 24, 4, 51, 4)
  | 8 => some (false, 24, 8, 26, 0)
  | 9 => some (true, 32, 1, 265, 7)
  | 10 => some (true, 32, 2, 133, 6)
  | 11 => some (true, 32, 4, 67, 4)
  | 12 => some (true, 32, 8, 34, 0)
  | 13 => some (true, 24, 1, 200, 8)
  | 14 => some (true, 24, 2, 101, 6)
  | 15 => some (true, 24, 4, 51, 4)
  | 16 => some (true, 24, 8, 26, 0)
  | _ => none
def param_Ots.f (a0 : Int) : Option (Int × Bool × Int × Int × Int × Int × Int) :=
  if 0 ≤ a0 then
    (match otsTab a0.toNat with
    | some (s, n, w, p, l) => some (a0, s, n, w, p, l, 0)
    | none => some (0, false, 0, 0, 0, 0, 60))
  else none
theorem otsTab_big (n : Nat) (h : 16 < n) : otsTab n = none := by
  unfold otsTab
  split <;> first | omega | rfl
theorem param_Ots.calls (a0 r1 : Int) (r2 : Bool) (r3 r4 r5 r6 r7 : Int) (w : World) (h : param_Ots.f a0 = some (r1, r2, r3, r4, r5, r6, r7)) :
    Calls Tryd.prog 87 #[.int .u32 a0] w fun e w' => e = .returned (.tuple #[.agg #[.int .u32 r1, .bool r2, .int .i64 r3, .int .i64 r4, .int .i64 r5, .int .i64 r6], .int .i64 r7]) ∧ Below w.heap.size w w' := by
  unfold param_Ots.f at h
  by_cases h0 : 0 ≤ a0
  · rw [if_pos h0] at h
    by_cases hb : 16 < a0
    · rw [otsTab_big _ (by omega)] at h
      simp only [Option.some.injEq, Prod.mk.injEq] at h
      obtain ⟨rfl, rfl, rfl, rfl, rfl, rfl, rfl⟩ := h
      exact otsBig a0 hb w
    · obtain rfl | rfl | rfl | rfl | rfl | rfl | rfl | rfl | rfl | rfl | rfl | rfl | rfl | rfl | rfl | rfl | rfl : a0 = 0 ∨ a0 = 1 ∨ a0 = 2 ∨ a0 = 3 ∨ a0 = 4 ∨ a0 = 5 ∨ a0 = 6 ∨ a0 = 7 ∨ a0 = 8 ∨ a0 = 9 ∨ a0 = 10 ∨ a0 = 11 ∨ a0 = 12 ∨ a0 = 13 ∨ a0 = 14 ∨ a0 = 15 ∨ a0 = 16 := by omega
      · simp only [otsTab, Int.reduceToNat, Option.some.injEq, Prod.mk.injEq] at h; obtain ⟨rfl, rfl, rfl, rfl, rfl, rfl, rfl⟩ := h; exact ots0 w
      · simp only [otsTab, Int.reduceToNat, Option.some.injEq, Prod.mk.injEq] at h; obtain ⟨rfl, rfl, rfl, rfl, rfl, rfl, rfl⟩ := h; exact ots1 w
      · simp only [otsTab, Int.reduceToNat, Option.some.injEq, Prod.mk.injEq] at h; obtain ⟨rfl, rfl, rfl, rfl, rfl, rfl, rfl⟩ := h; exact ots2 w
      · simp only [otsTab, Int.reduceToNat, Option.some.injEq, Prod.mk.injEq] at h; obtain ⟨rfl, rfl, rfl, rfl, rfl, rfl, rfl⟩ := h; exact ots3 w
      · simp only [otsTab, Int.reduceToNat, Option.some.injEq, Prod.mk.injEq] at h; obtain ⟨rfl, rfl, rfl, rfl, rfl, rfl, rfl⟩ := h; exact ots4 w
      · simp only [otsTab, Int.reduceToNat, Option.some.injEq, Prod.mk.injEq] at h; obtain ⟨rfl, rfl, rfl, rfl, rfl, rfl, rfl⟩ := h; exact ots5 w
      · simp only [otsTab, Int.reduceToNat, Option.some.injEq, Prod.mk.injEq] at h; obtain ⟨rfl, rfl, rfl, rfl, rfl, rfl, rfl⟩ := h; exact ots6 w
      · simp only [otsTab, Int.reduceToNat, Option.some.injEq, Prod.mk.injEq] at h; obtain ⟨rfl, rfl, rfl, rfl, rfl, rfl, rfl⟩ := h; exact ots7 w
      · simp only [otsTab, Int.reduceToNat, Option.some.injEq, Prod.mk.injEq] at h; obtain ⟨rfl, rfl, rfl, rfl, rfl, rfl, rfl⟩ := h; exact ots8 w
      · simp only [otsTab, Int.reduceToNat, Option.some.injEq, Prod.mk.injEq] at h; obtain ⟨rfl, rfl, rfl, rfl, rfl, rfl, rfl⟩ := h; exact ots9 w
      · simp only [otsTab, Int.reduceToNat, Option.some.injEq, Prod.mk.injEq] at h; obtain ⟨rfl, rfl, rfl, rfl, rfl, rfl, rfl⟩ := h; exact ots10 w
      · simp only [otsTab, Int.reduceToNat, Option.some.injEq, Prod.mk.injEq] at h; obtain ⟨rfl, rfl, rfl, rfl, rfl, rfl, rfl⟩ := h; exact ots11 w
      · simp only [otsTab, Int.reduceToNat, Option.some.injEq, Prod.mk.injEq] at h; obtain ⟨rfl, rfl, rfl, rfl, rfl, rfl, rfl⟩ := h; exact ots12 w
      · simp only [otsTab, Int.reduceToNat, Option.some.injEq, Prod.mk.injEq] at h; obtain ⟨rfl, rfl, rfl, rfl, rfl, rfl, rfl⟩ := h; exact ots13 w
      · simp only [otsTab, Int.reduceToNat, Option.some.injEq, Prod.mk.injEq] at h; obtain ⟨rfl, rfl, rfl, rfl, rfl, rfl, rfl⟩ := h; exact ots14 w
      · simp only [otsTab, Int.reduceToNat, Option.some.injEq, Prod.mk.injEq] at h; obtain ⟨rfl, rfl, rfl, rfl, rfl, rfl, rfl⟩ := h; exact ots15 w
      · simp only [otsTab, Int.reduceToNat, Option.some.injEq, Prod.mk.injEq] at h; obtain ⟨rfl, rfl, rfl, rfl, rfl, rfl, rfl⟩ := h; exact ots16 w
  · rw [if_neg h0] at h; cases h
end Go.Proofs.YtpdinahdcedmkaaDoor.ExtP
