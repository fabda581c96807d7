/- script.placed: may an act's devices, key, transfer and range be (of acts without 't' and 'r'). -/
import Derived.Test.YtpdinahdcedmkaaDoorSHead
namespace Go.Proofs.YtpdinahdcedmkaaDoor.Ext
set_option linter.unusedVariables false
open Go.RowKit Go.Proofs.YtpdinahdcedmkaaDoorW.PrintWords Go.Proofs.YtpdinahdcedmkaaDoorW.PrintLast Go.Proofs.YtpdinahdcedmkaaDoorW.PrintMore

theorem has_t {d : Int} {c : UInt8} (h : hasS d c = true) (w : World) : Calls Tryd.prog 46 #[.int .i64 d, .string ⟨#[c]⟩] w fun e w' => e = .returned (.bool true) ∧ Below w.heap.size w w' := by rw [← h]; exact c_has d c w
theorem has_f {d : Int} {c : UInt8} (h : hasS d c = false) (w : World) : Calls Tryd.prog 46 #[.int .i64 d, .string ⟨#[c]⟩] w fun e w' => e = .returned (.bool false) ∧ Below w.heap.size w w' := by rw [← h]; exact c_has d c w
/-- is a device's number such that it may be? -/
def inS (is : Bool) (n : Int) (m : Nat) : Bool := decide (0 ≤ n) && (decide (n < m) && (is || decide (n = 0)))
set_option maxHeartbeats 2000000 in
set_option maxRecDepth 100000 in
theorem c_in (is : Bool) (n : Int) (b : Nat) (A : Option Addr) (m c : Nat) (w : World) (h2 : w.cell? ⟨b, 2, none⟩ = some (.slice A m c)) :
    Calls Tryd.prog 49 #[.bool is, .int .i64 n, .pointer (some ⟨b, 0, none⟩)] w fun e w' => e = .returned (.bool (inS is n m)) ∧ w' = w := by
  obtain ⟨R, hR⟩ : ∃ R, inS is n m = R := ⟨_, rfl⟩
  rw [hR]
  unfold inS at hR
  by_cases h0 : 0 ≤ n
  · have t0 : decide (0 ≤ n) = true := decide_eq_true h0
    by_cases h1 : n < m
    · have t1 : decide (n < (m : Int)) = true := decide_eq_true h1
      cases is with
      | true =>
        obtain rfl : R = true := by rw [← hR, t0, t1]; rfl
        clear hR h0 h1
        go_enter Tryd.func49, Tryd.ntmps49
        go_wp2
        go_ret
        exact ⟨rfl, rfl⟩
      | false =>
        by_cases h3 : n = 0
        · obtain rfl : R = true := by rw [← hR, t0, t1, decide_eq_true h3]; rfl
          have t3 : (n == 0) = true := beq_iff_eq.2 h3
          clear hR h0 h1 h3
          go_enter Tryd.func49, Tryd.ntmps49
          go_wp2
          go_ret
          exact ⟨rfl, rfl⟩
        · obtain rfl : R = false := by rw [← hR, t0, t1, decide_eq_false h3]; rfl
          have t3 : (n == 0) = false := beq_eq_false_iff_ne.2 h3
          clear hR h0 h1 h3
          go_enter Tryd.func49, Tryd.ntmps49
          go_wp2
          go_ret
          exact ⟨rfl, rfl⟩
    · have t1 : decide (n < (m : Int)) = false := decide_eq_false h1
      obtain rfl : R = false := by rw [← hR, t0, t1]; rfl
      clear hR h0 h1
      go_enter Tryd.func49, Tryd.ntmps49
      go_wp2
      go_ret
      exact ⟨rfl, rfl⟩
  · have t0 : decide (0 ≤ n) = false := decide_eq_false h0
    obtain rfl : R = false := by rw [← hR, t0]; rfl
    clear hR h0
    go_enter Tryd.func49, Tryd.ntmps49
    go_wp2
    go_ret
    exact ⟨rfl, rfl⟩
theorem c_inB {is : Bool} {n : Int} {m : Nat} {R : Bool} (hR : inS is n m = R) (b : Nat) (A : Option Addr) (c : Nat) (w : World) (h2 : w.cell? ⟨b, 2, none⟩ = some (.slice A m c)) :
    Calls Tryd.prog 49 #[.bool is, .int .i64 n, .pointer (some ⟨b, 0, none⟩)] w fun e w' => e = .returned (.bool R) ∧ Below w.heap.size w w' :=
  (c_in is n b A m c w h2).mono fun e w' h => ⟨by rw [h.1, hR], by rw [h.2]; exact Below.refl _ _⟩
theorem keepP {w W v : World} {b : Nat} {o1 o2 : Obj} {c0 c1 c2 cn : Value} (h0 : W.cell? ⟨b + 1, 0, none⟩ = some c0) (h1 : W.cell? ⟨b + 1, 1, none⟩ = some c1) (h2 : W.cell? ⟨b + 1, 2, none⟩ = some c2) (hn : W.cell? ⟨b, 2, none⟩ = some cn) (HB : Aside0 (Below w.heap.size w W)) (hz : b + 1 < W.heap.size) (HR1 : Aside0 (W.heap[b]? = some o1)) (HR2 : Aside0 (W.heap[b + 1]? = some o2)) (hb : Below W.heap.size W v) :
    v.cell? ⟨b + 1, 0, none⟩ = some c0 ∧ v.cell? ⟨b + 1, 1, none⟩ = some c1 ∧ v.cell? ⟨b + 1, 2, none⟩ = some c2 ∧ v.cell? ⟨b, 2, none⟩ = some cn ∧ Aside0 (Below w.heap.size w v) ∧ b + 1 < v.heap.size ∧ Aside0 (v.heap[b]? = some o1) ∧ Aside0 (v.heap[b + 1]? = some o2) :=
  ⟨(hb.cell (by simpa using hz)).trans h0, (hb.cell (by simpa using hz)).trans h1, (hb.cell (by simpa using hz)).trans h2, (hb.cell (p := ⟨b, 2, none⟩) (show b < W.heap.size by omega)).trans hn, ⟨HB.out.trans (hb.mono HB.out.size)⟩, by have := hb.size; omega, ⟨krow HR1.out hb⟩, ⟨krow HR2.out hb⟩⟩
end Go.Proofs.YtpdinahdcedmkaaDoor.Ext
