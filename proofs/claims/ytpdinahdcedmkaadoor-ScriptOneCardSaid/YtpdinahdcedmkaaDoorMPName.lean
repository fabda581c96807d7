import Derived.Test.YtpdinahdcedmkaaDoorPVals
import Derived.Test.YtpdinahdcedmkaaDoorMLab
import Derived.Test.YtpdinahdcedmkaaDoorMHex
/- param.Name returns the name of a kind and code. -/
namespace Go.Proofs.YtpdinahdcedmkaaDoor.ExtP
open Go.Proofs.YtpdinahdcedmkaaDoor.Ext
set_option linter.unusedVariables false
open Go.RowKit Go.Proofs.YtpdinahdcedmkaaDoorW.PrintWords Go.Proofs.YtpdinahdcedmkaaDoor.Spec

def decS (n : Int) : ByteArray := strOfNums (decL n.toNat)
theorem decL_len (k : Nat) : ∀ n, n < 10 ^ (k + 1) → (decL n).length ≤ k + 1 := by
  induction k with
  | zero => intro n h; rw [decL_lt (by simpa using h)]; simp
  | succ k ih =>
    intro n h
    by_cases h10 : n < 10
    · rw [decL_lt h10]; simp
    · rw [decL_ge h10]
      have := ih (n / 10) (by rw [Nat.pow_succ] at h; omega)
      simp; omega
theorem decS_size (n : Int) (h0 : 0 ≤ n) (h1 : n < 9223372036854775808) : (decS n).size ≤ 20 := by
  have := decL_len 19 n.toNat (by omega)
  unfold decS strOfNums
  simpa [ByteArray.size] using this
def sumS (b : Bool) : ByteArray := if b = true then ⟨#[83, 72, 65, 75, 69]⟩ else ⟨#[83, 72, 65, 50, 53, 54]⟩
theorem sumS_size (b : Bool) : (sumS b).size ≤ 6 := by cases b <;> decide

theorem c_digS (n : Int) (w : World) (h0 : 0 ≤ n) (h1 : n < 9223372036854775808) :
    Calls Tryd.prog 92 #[.int .i64 n] w fun e w' => e = .returned (.string (decS n)) ∧ Below w.heap.size w w' := c_digits n w h0 h1
theorem c_sumS (b : Bool) (w : World) :
    Calls Tryd.prog 91 #[.bool b, .string ⟨#[83, 72, 65, 75, 69]⟩, .string ⟨#[83, 72, 65, 50, 53, 54]⟩] w fun e w' => e = .returned (.string (sumS b)) ∧ w' = w := c_sum b _ _ w
theorem bcell {W w1 : World} (hb : Below W.heap.size W w1) : (∀ b o, b < W.heap.size → w1.cell? ⟨b, o, none⟩ = W.cell? ⟨b, o, none⟩) ∧ (∀ b o, b < W.heap.size → w1.frozen? ⟨b, o, none⟩ = W.frozen? ⟨b, o, none⟩) :=
  ⟨fun b o h => hb.cell (p := ⟨b, o, none⟩) h, fun b o h => hb.frozen (p := ⟨b, o, none⟩) h⟩
def sumX (b : Bool) : ByteArray := if b = true then (⟨#[83, 72, 65, 75, 69, 50, 53, 54]⟩ : ByteArray) else (⟨#[83, 72, 65, 50]⟩ : ByteArray)
theorem sumX_size (b : Bool) : (sumX b).size ≤ 8 := by cases b <;> decide
theorem c_sumX (b : Bool) (w : World) :
    Calls Tryd.prog 91 #[.bool b, .string (⟨#[83, 72, 65, 75, 69, 50, 53, 54]⟩ : ByteArray), .string (⟨#[83, 72, 65, 50]⟩ : ByteArray)] w fun e w' => e = .returned (.string (sumX b)) ∧ w' = w := c_sum b _ _ w
def name1S (o : OtsR) : ByteArray := ((((((⟨#[76, 77, 79, 84, 83, 95]⟩ : ByteArray) ++ sumS o.shake) ++ (⟨#[95, 78]⟩ : ByteArray)) ++ decS (o.n)) ++ (⟨#[95, 87]⟩ : ByteArray)) ++ decS (o.w))
set_option maxHeartbeats 2000000 in
set_option maxRecDepth 100000 in
theorem name1 (c : Int) (w : World) (g0 : 0 ≤ c) (g1 : c < 4294967296) (o : OtsR) (ho : ots c = (o, 0)) (n0 : 0 ≤ o.n) (n1 : o.n < 100000) (w0 : 0 ≤ o.w) (w1 : o.w < 100000) :
    Calls Tryd.prog 72 #[.int .i64 1, .int .u32 c] w fun e w' => e = .returned (.string (name1S o)) ∧ Below w.heap.size w w' := by
  unfold name1S
  have Ck := fun w => c_known 1 c w g0 g1
  rw [show known 1 c = true by unfold known; rw [ho]; rfl] at Ck
  have Co := fun w => c_Ots c w g0
  rw [ho] at Co
  have Cn := fun w => c_digS o.n w n0 (by omega)
  have Cw := fun w => c_digS (o.w) w (by omega) (by omega)
  have Cs := fun w => c_sumS o.shake w
  have z1 := decS_size o.n n0 (by omega)
  have z2 := decS_size (o.w) (by omega) (by omega)
  have z3 := sumS_size o.shake
  obtain ⟨code, shake, nn, ww, p, ls⟩ := o
  simp only [OtsR.enc] at *
  have ck := Lib.hid Ck; have co := Lib.hid Co; have cn := Lib.hid Cn; have cw := Lib.hid Cw; have cs := Lib.hid Cs; clear Ck Co Cn Cw Cs ho
  go_enter Tryd.func72, Tryd.ntmps72
  go_wp2_with (first
      | (go_at_call 90; refine (ck.out _).mono ?_; rintro e v1 ⟨rfl, hb1⟩)
      | (go_at_call 87; refine (co.out _).mono ?_; rintro e v2 ⟨rfl, hb2⟩))
  have f1 : 6 + (sumS shake).size ≤ 9223372036854775807 := by omega
  have k1 := fun W => run_string_add_sum (P := Tryd.prog) W ((⟨#[76, 77, 79, 84, 83, 95]⟩ : ByteArray)) (sumS shake) f1
  have f2 : ((⟨#[76, 77, 79, 84, 83, 95]⟩ : ByteArray) ++ sumS shake).size + 2 ≤ 9223372036854775807 := by rw [ByteArray.size_append]; show 6 + _ + 2 ≤ _; omega
  have k2 := fun W => run_string_add_sum (P := Tryd.prog) W (((⟨#[76, 77, 79, 84, 83, 95]⟩ : ByteArray) ++ sumS shake)) ((⟨#[95, 78]⟩ : ByteArray)) f2
  have f3 : (((⟨#[76, 77, 79, 84, 83, 95]⟩ : ByteArray) ++ sumS shake) ++ (⟨#[95, 78]⟩ : ByteArray)).size + (decS nn).size ≤ 9223372036854775807 := by rw [ByteArray.size_append, ByteArray.size_append]; show 6 + _ + 2 + _ ≤ _; omega
  have k3 := fun W => run_string_add_sum (P := Tryd.prog) W ((((⟨#[76, 77, 79, 84, 83, 95]⟩ : ByteArray) ++ sumS shake) ++ (⟨#[95, 78]⟩ : ByteArray))) (decS nn) f3
  have f4 : ((((⟨#[76, 77, 79, 84, 83, 95]⟩ : ByteArray) ++ sumS shake) ++ (⟨#[95, 78]⟩ : ByteArray)) ++ decS nn).size + 2 ≤ 9223372036854775807 := by rw [ByteArray.size_append, ByteArray.size_append, ByteArray.size_append]; show 6 + _ + 2 + _ + 2 ≤ _; omega
  have k4 := fun W => run_string_add_sum (P := Tryd.prog) W (((((⟨#[76, 77, 79, 84, 83, 95]⟩ : ByteArray) ++ sumS shake) ++ (⟨#[95, 78]⟩ : ByteArray)) ++ decS nn)) ((⟨#[95, 87]⟩ : ByteArray)) f4
  have f5 : (((((⟨#[76, 77, 79, 84, 83, 95]⟩ : ByteArray) ++ sumS shake) ++ (⟨#[95, 78]⟩ : ByteArray)) ++ decS nn) ++ (⟨#[95, 87]⟩ : ByteArray)).size + (decS ww).size ≤ 9223372036854775807 := by rw [ByteArray.size_append, ByteArray.size_append, ByteArray.size_append, ByteArray.size_append]; show 6 + _ + 2 + _ + 2 + _ ≤ _; omega
  have k5 := fun W => run_string_add_sum (P := Tryd.prog) W ((((((⟨#[76, 77, 79, 84, 83, 95]⟩ : ByteArray) ++ sumS shake) ++ (⟨#[95, 78]⟩ : ByteArray)) ++ decS nn) ++ (⟨#[95, 87]⟩ : ByteArray))) (decS ww) f5
  clear f1 f2 f3 f4 f5
  have HB := Aside0.mk (below_step hb1 hb2)
  clear hb1 hb2
  go_region_held3 (fun W => W.cell? ⟨v2.heap.size, 1, none⟩ = some (.bool shake) ∧ W.cell? ⟨v2.heap.size, 2, none⟩ = some (.int .i64 nn) ∧ W.cell? ⟨v2.heap.size, 3, none⟩ = some (.int .i64 ww) ∧ Aside0 (Below w.heap.size w W) ∧ v2.heap.size < W.heap.size)
    (first
      | (refine ⟨by go_simp, by go_simp, by go_simp, ⟨(HB.out.alloc HB.out.size _).drew⟩, by simp⟩)
      | (go_split_ands
         have hsz3 := hb3.size
         refine ⟨?_, ?_, ?_, ⟨?_⟩, ?_⟩
         · (rw [(bcell hb3).1 _ _ (by assumption)]; assumption)
         · (rw [(bcell hb3).1 _ _ (by assumption)]; assumption)
         · (rw [(bcell hb3).1 _ _ (by assumption)]; assumption)
         · exact below_step (Aside0.out (by assumption)) hb3
         · omega))
    (first
      | (go_simp; go_at_call 91; refine (cs.out _).mono ?_; rintro e v3 ⟨rfl, rfl⟩)
      | (go_simp; go_at_call 92; refine (cn.out _).mono ?_; rintro e v3 ⟨rfl, hb3⟩)
      | (go_simp; go_at_call 92; refine (cw.out _).mono ?_; rintro e v3 ⟨rfl, hb3⟩))
  go_wp2
  go_ret
  go_split_ands
  exact ⟨rfl, Aside0.out (by assumption)⟩
def name2S (o : LmsR) : ByteArray := ((((((⟨#[76, 77, 83, 95]⟩ : ByteArray) ++ sumS o.shake) ++ (⟨#[95, 77]⟩ : ByteArray)) ++ decS (o.n)) ++ (⟨#[95, 72]⟩ : ByteArray)) ++ decS (o.h))
set_option maxHeartbeats 2000000 in
set_option maxRecDepth 100000 in
theorem name2 (c : Int) (w : World) (g0 : 0 ≤ c) (g1 : c < 4294967296) (o : LmsR) (ho : lms c = (o, 0)) (n0 : 0 ≤ o.n) (n1 : o.n < 100000) (w0 : 0 ≤ o.h) (w1 : o.h < 100000) :
    Calls Tryd.prog 72 #[.int .i64 2, .int .u32 c] w fun e w' => e = .returned (.string (name2S o)) ∧ Below w.heap.size w w' := by
  unfold name2S
  have Ck := fun w => c_known 2 c w g0 g1
  rw [show known 2 c = true by unfold known; rw [ho]; rfl] at Ck
  have Co := fun w => c_Lms c w g0 g1
  rw [ho] at Co
  have Cn := fun w => c_digS o.n w n0 (by omega)
  have Cw := fun w => c_digS (o.h) w (by omega) (by omega)
  have Cs := fun w => c_sumS o.shake w
  have z1 := decS_size o.n n0 (by omega)
  have z2 := decS_size (o.h) (by omega) (by omega)
  have z3 := sumS_size o.shake
  obtain ⟨code, shake, nn, hh⟩ := o
  simp only [LmsR.enc] at *
  have ck := Lib.hid Ck; have co := Lib.hid Co; have cn := Lib.hid Cn; have cw := Lib.hid Cw; have cs := Lib.hid Cs; clear Ck Co Cn Cw Cs ho
  go_enter Tryd.func72, Tryd.ntmps72
  go_wp2_with (first
      | (go_at_call 90; refine (ck.out _).mono ?_; rintro e v1 ⟨rfl, hb1⟩)
      | (go_at_call 86; refine (co.out _).mono ?_; rintro e v2 ⟨rfl, hb2⟩))
  have f1 : 4 + (sumS shake).size ≤ 9223372036854775807 := by omega
  have k1 := fun W => run_string_add_sum (P := Tryd.prog) W ((⟨#[76, 77, 83, 95]⟩ : ByteArray)) (sumS shake) f1
  have f2 : ((⟨#[76, 77, 83, 95]⟩ : ByteArray) ++ sumS shake).size + 2 ≤ 9223372036854775807 := by rw [ByteArray.size_append]; show 4 + _ + 2 ≤ _; omega
  have k2 := fun W => run_string_add_sum (P := Tryd.prog) W (((⟨#[76, 77, 83, 95]⟩ : ByteArray) ++ sumS shake)) ((⟨#[95, 77]⟩ : ByteArray)) f2
  have f3 : (((⟨#[76, 77, 83, 95]⟩ : ByteArray) ++ sumS shake) ++ (⟨#[95, 77]⟩ : ByteArray)).size + (decS nn).size ≤ 9223372036854775807 := by rw [ByteArray.size_append, ByteArray.size_append]; show 4 + _ + 2 + _ ≤ _; omega
  have k3 := fun W => run_string_add_sum (P := Tryd.prog) W ((((⟨#[76, 77, 83, 95]⟩ : ByteArray) ++ sumS shake) ++ (⟨#[95, 77]⟩ : ByteArray))) (decS nn) f3
  have f4 : ((((⟨#[76, 77, 83, 95]⟩ : ByteArray) ++ sumS shake) ++ (⟨#[95, 77]⟩ : ByteArray)) ++ decS nn).size + 2 ≤ 9223372036854775807 := by rw [ByteArray.size_append, ByteArray.size_append, ByteArray.size_append]; show 4 + _ + 2 + _ + 2 ≤ _; omega
  have k4 := fun W => run_string_add_sum (P := Tryd.prog) W (((((⟨#[76, 77, 83, 95]⟩ : ByteArray) ++ sumS shake) ++ (⟨#[95, 77]⟩ : ByteArray)) ++ decS nn)) ((⟨#[95, 72]⟩ : ByteArray)) f4
  have f5 : (((((⟨#[76, 77, 83, 95]⟩ : ByteArray) ++ sumS shake) ++ (⟨#[95, 77]⟩ : ByteArray)) ++ decS nn) ++ (⟨#[95, 72]⟩ : ByteArray)).size + (decS hh).size ≤ 9223372036854775807 := by rw [ByteArray.size_append, ByteArray.size_append, ByteArray.size_append, ByteArray.size_append]; show 4 + _ + 2 + _ + 2 + _ ≤ _; omega
  have k5 := fun W => run_string_add_sum (P := Tryd.prog) W ((((((⟨#[76, 77, 83, 95]⟩ : ByteArray) ++ sumS shake) ++ (⟨#[95, 77]⟩ : ByteArray)) ++ decS nn) ++ (⟨#[95, 72]⟩ : ByteArray))) (decS hh) f5
  clear f1 f2 f3 f4 f5
  have HB := Aside0.mk (below_step hb1 hb2)
  clear hb1 hb2
  go_region_held3 (fun W => W.cell? ⟨v2.heap.size, 1, none⟩ = some (.bool shake) ∧ W.cell? ⟨v2.heap.size, 2, none⟩ = some (.int .i64 nn) ∧ W.cell? ⟨v2.heap.size, 3, none⟩ = some (.int .i64 hh) ∧ Aside0 (Below w.heap.size w W) ∧ v2.heap.size < W.heap.size)
    (first
      | (refine ⟨by go_simp, by go_simp, by go_simp, ⟨(HB.out.alloc HB.out.size _).drew⟩, by simp⟩)
      | (go_split_ands
         have hsz3 := hb3.size
         refine ⟨?_, ?_, ?_, ⟨?_⟩, ?_⟩
         · (rw [(bcell hb3).1 _ _ (by assumption)]; assumption)
         · (rw [(bcell hb3).1 _ _ (by assumption)]; assumption)
         · (rw [(bcell hb3).1 _ _ (by assumption)]; assumption)
         · exact below_step (Aside0.out (by assumption)) hb3
         · omega))
    (first
      | (go_simp; go_at_call 91; refine (cs.out _).mono ?_; rintro e v3 ⟨rfl, rfl⟩)
      | (go_simp; go_at_call 92; refine (cn.out _).mono ?_; rintro e v3 ⟨rfl, hb3⟩)
      | (go_simp; go_at_call 92; refine (cw.out _).mono ?_; rintro e v3 ⟨rfl, hb3⟩))
  go_wp2
  go_ret
  go_split_ands
  exact ⟨rfl, Aside0.out (by assumption)⟩
def name3S (o : XmsR) : ByteArray := ((((((⟨#[88, 77, 83, 83, 45]⟩ : ByteArray) ++ sumX o.shake) ++ (⟨#[95]⟩ : ByteArray)) ++ decS (o.h)) ++ (⟨#[95]⟩ : ByteArray)) ++ decS (8 * o.n))
set_option maxHeartbeats 2000000 in
set_option maxRecDepth 100000 in
theorem name3 (c : Int) (w : World) (g0 : 0 ≤ c) (g1 : c < 4294967296) (o : XmsR) (ho : xms c = (o, 0)) (n0 : 0 ≤ o.h) (n1 : o.h < 100000) (w0 : 0 ≤ o.n) (w1 : o.n < 100000) :
    Calls Tryd.prog 72 #[.int .i64 3, .int .u32 c] w fun e w' => e = .returned (.string (name3S o)) ∧ Below w.heap.size w w' := by
  unfold name3S
  have Ck := fun w => c_known 3 c w g0 g1
  rw [show known 3 c = true by unfold known; rw [ho]; rfl] at Ck
  have Co := fun w => c_Xmss c w g0 g1
  rw [ho] at Co
  have Cn := fun w => c_digS o.h w n0 (by omega)
  have Cw := fun w => c_digS (8 * o.n) w (by omega) (by omega)
  have Cs := fun w => c_sumX o.shake w
  have z1 := decS_size o.h n0 (by omega)
  have z2 := decS_size (8 * o.n) (by omega) (by omega)
  have z3 := sumX_size o.shake
  obtain ⟨code, shake, nn, hh, len⟩ := o
  simp only [XmsR.enc] at *
  have ck := Lib.hid Ck; have co := Lib.hid Co; have cn := Lib.hid Cn; have cw := Lib.hid Cw; have cs := Lib.hid Cs; clear Ck Co Cn Cw Cs ho
  have hw8 : IntKind.i64.wrap (8 * nn) = 8 * nn := IntWalk.i64_in _ (by omega)
  go_enter Tryd.func72, Tryd.ntmps72
  go_wp2_with (first
      | (go_at_call 90; refine (ck.out _).mono ?_; rintro e v1 ⟨rfl, hb1⟩)
      | (go_at_call 48; refine (co.out _).mono ?_; rintro e v2 ⟨rfl, hb2⟩))
  have f1 : 5 + (sumX shake).size ≤ 9223372036854775807 := by omega
  have k1 := fun W => run_string_add_sum (P := Tryd.prog) W ((⟨#[88, 77, 83, 83, 45]⟩ : ByteArray)) (sumX shake) f1
  have f2 : ((⟨#[88, 77, 83, 83, 45]⟩ : ByteArray) ++ sumX shake).size + 1 ≤ 9223372036854775807 := by rw [ByteArray.size_append]; show 5 + _ + 1 ≤ _; omega
  have k2 := fun W => run_string_add_sum (P := Tryd.prog) W (((⟨#[88, 77, 83, 83, 45]⟩ : ByteArray) ++ sumX shake)) ((⟨#[95]⟩ : ByteArray)) f2
  have f3 : (((⟨#[88, 77, 83, 83, 45]⟩ : ByteArray) ++ sumX shake) ++ (⟨#[95]⟩ : ByteArray)).size + (decS hh).size ≤ 9223372036854775807 := by rw [ByteArray.size_append, ByteArray.size_append]; show 5 + _ + 1 + _ ≤ _; omega
  have k3 := fun W => run_string_add_sum (P := Tryd.prog) W ((((⟨#[88, 77, 83, 83, 45]⟩ : ByteArray) ++ sumX shake) ++ (⟨#[95]⟩ : ByteArray))) (decS hh) f3
  have f4 : ((((⟨#[88, 77, 83, 83, 45]⟩ : ByteArray) ++ sumX shake) ++ (⟨#[95]⟩ : ByteArray)) ++ decS hh).size + 1 ≤ 9223372036854775807 := by rw [ByteArray.size_append, ByteArray.size_append, ByteArray.size_append]; show 5 + _ + 1 + _ + 1 ≤ _; omega
  have k4 := fun W => run_string_add_sum (P := Tryd.prog) W (((((⟨#[88, 77, 83, 83, 45]⟩ : ByteArray) ++ sumX shake) ++ (⟨#[95]⟩ : ByteArray)) ++ decS hh)) ((⟨#[95]⟩ : ByteArray)) f4
  have f5 : (((((⟨#[88, 77, 83, 83, 45]⟩ : ByteArray) ++ sumX shake) ++ (⟨#[95]⟩ : ByteArray)) ++ decS hh) ++ (⟨#[95]⟩ : ByteArray)).size + (decS (8 * nn)).size ≤ 9223372036854775807 := by rw [ByteArray.size_append, ByteArray.size_append, ByteArray.size_append, ByteArray.size_append]; show 5 + _ + 1 + _ + 1 + _ ≤ _; omega
  have k5 := fun W => run_string_add_sum (P := Tryd.prog) W ((((((⟨#[88, 77, 83, 83, 45]⟩ : ByteArray) ++ sumX shake) ++ (⟨#[95]⟩ : ByteArray)) ++ decS hh) ++ (⟨#[95]⟩ : ByteArray))) (decS (8 * nn)) f5
  clear f1 f2 f3 f4 f5
  have HB := Aside0.mk (below_step hb1 hb2)
  clear hb1 hb2
  go_region_held3 (fun W => W.cell? ⟨v2.heap.size, 1, none⟩ = some (.bool shake) ∧ W.cell? ⟨v2.heap.size, 3, none⟩ = some (.int .i64 hh) ∧ W.cell? ⟨v2.heap.size, 2, none⟩ = some (.int .i64 nn) ∧ Aside0 (Below w.heap.size w W) ∧ v2.heap.size < W.heap.size)
    (first
      | (refine ⟨by go_simp, by go_simp, by go_simp, ⟨(HB.out.alloc HB.out.size _).drew⟩, by simp⟩)
      | (go_split_ands
         have hsz3 := hb3.size
         refine ⟨?_, ?_, ?_, ⟨?_⟩, ?_⟩
         · (rw [(bcell hb3).1 _ _ (by assumption)]; assumption)
         · (rw [(bcell hb3).1 _ _ (by assumption)]; assumption)
         · (rw [(bcell hb3).1 _ _ (by assumption)]; assumption)
         · exact below_step (Aside0.out (by assumption)) hb3
         · omega))
    (first
      | (go_simp; go_at_call 91; refine (cs.out _).mono ?_; rintro e v3 ⟨rfl, rfl⟩)
      | (go_simp; go_at_call 92; refine (cn.out _).mono ?_; rintro e v3 ⟨rfl, hb3⟩)
      | (go_simp; go_at_call 92; refine (cw.out _).mono ?_; rintro e v3 ⟨rfl, hb3⟩))
  go_wp2
  go_ret
  go_split_ands
  exact ⟨rfl, Aside0.out (by assumption)⟩

theorem ots_bd (c : Int) : 0 ≤ (ots c).1.n ∧ (ots c).1.n < 100000 ∧ 0 ≤ (ots c).1.w ∧ (ots c).1.w < 100000 := by
  unfold ots
  split
  · rename_i h
    unfold Spec.otsTab at h
    split at h <;> simp only [Option.some.injEq, Prod.mk.injEq, reduceCtorEq] at h <;> (obtain ⟨rfl, rfl, rfl, rfl, rfl⟩ := h; simp only; omega)
  · decide
theorem ownFam_bd {c f h x : Int} (e : ownFam c x = some (f, h)) : 0 ≤ h ∧ h ≤ 4 := by
  unfold ownFam at e
  split at e
  · rename_i hh; cases e; omega
  · cases e
theorem lms_bd (c : Int) : 0 ≤ (lms c).1.n ∧ (lms c).1.n < 100000 ∧ 0 ≤ (lms c).1.h ∧ (lms c).1.h < 100000 := by
  unfold lms
  split
  · rename_i f h e
    have := fBytes_bd f
    unfold lmsFam at e
    split at e
    · cases e; simp only; omega
    · have := ownFam_bd e; simp only; omega
  · decide
theorem height_bd (i : Int) : 0 ≤ height i ∧ height i ≤ 20 := by
  unfold height
  split
  · omega
  · split <;> omega
theorem xms_bd (c : Int) : 0 ≤ (xms c).1.h ∧ (xms c).1.h < 100000 ∧ 0 ≤ (xms c).1.n ∧ (xms c).1.n < 100000 := by
  unfold xms
  split
  · rename_i f h e
    have := fBytes_bd f
    unfold xmsFam at e
    split at e
    · cases e; have := height_bd (c - 1); simp only; omega
    · split at e
      · cases e; have := height_bd ((c - 13) % 3); simp only; omega
      · have := ownFam_bd e; simp only; omega
  · decide

def nameS (k c : Int) : ByteArray :=
  if known k c = true then (if k = 1 then name1S (ots c).1 else if k = 2 then name2S (lms c).1 else name3S (xms c).1) else ⟨#[]⟩
set_option maxHeartbeats 1000000 in
set_option maxRecDepth 100000 in
theorem name0 (k c : Int) (w : World) (g0 : 0 ≤ c) (g1 : c < 4294967296) (hk : known k c = false) :
    Calls Tryd.prog 72 #[.int .i64 k, .int .u32 c] w fun e w' => e = .returned (.string ⟨#[]⟩) ∧ Below w.heap.size w w' := by
  have Ck := fun w => c_known k c w g0 g1
  rw [hk] at Ck
  have ck := Lib.hid Ck; clear Ck hk
  go_enter Tryd.func72, Tryd.ntmps72
  go_wp2_with (first
      | (go_at_call 90; refine (ck.out _).mono ?_; rintro e v1 ⟨rfl, hb1⟩))
  go_ret
  exact ⟨rfl, hb1⟩
theorem c_Name (k c : Int) (w : World) (g0 : 0 ≤ c) (g1 : c < 4294967296) :
    Calls Tryd.prog 72 #[.int .i64 k, .int .u32 c] w fun e w' => e = .returned (.string (nameS k c)) ∧ Below w.heap.size w w' := by
  unfold nameS
  cases hk : known k c with
  | false => rw [if_neg (by decide)]; exact name0 k c w g0 g1 hk
  | true =>
    rw [if_pos rfl]
    by_cases h1 : k = 1
    · subst h1
      rw [if_pos rfl]
      have hz : (ots c).2 = 0 := by simpa [known] using hk
      have := ots_bd c
      exact name1 c w g0 g1 _ (Prod.ext rfl hz) this.1 this.2.1 this.2.2.1 this.2.2.2
    · rw [if_neg h1]
      by_cases h2 : k = 2
      · subst h2
        rw [if_pos rfl]
        have hz : (lms c).2 = 0 := by simpa [known] using hk
        have := lms_bd c
        exact name2 c w g0 g1 _ (Prod.ext rfl hz) this.1 this.2.1 this.2.2.1 this.2.2.2
      · rw [if_neg h2]
        by_cases h3 : k = 3
        · subst h3
          have hz : (xms c).2 = 0 := by simpa [known] using hk
          have := xms_bd c
          exact name3 c w g0 g1 _ (Prod.ext rfl hz) this.1 this.2.1 this.2.2.1 this.2.2.2
        · unfold known at hk
          rw [if_neg h1, if_neg h2, if_neg h3] at hk
          cases hk
end Go.Proofs.YtpdinahdcedmkaaDoor.ExtP
/- param's isOts, isLms, isXmss, Fit and the lengths. -/
namespace Go.Proofs.YtpdinahdcedmkaaDoor.ExtP
open Go.Proofs.YtpdinahdcedmkaaDoor.Ext
set_option linter.unusedVariables false
open Go.RowKit Go.Proofs.YtpdinahdcedmkaaDoorW.PrintWords Go.Proofs.YtpdinahdcedmkaaDoorW.PrintLast Go.Proofs.YtpdinahdcedmkaaDoor.Spec

theorem eqOts (d : Nat) (w : World) (x0 y0 : Int) (x1 y1 : Bool) (x2 y2 : Int) (x3 y3 : Int) (x4 y4 : Int) (x5 y5 : Int) :
    (Op.equalIn (d + 2) 114 (.agg #[.int .u32 x0, .bool x1, .int .i64 x2, .int .i64 x3, .int .i64 x4, .int .i64 x5]) (.agg #[.int .u32 y0, .bool y1, .int .i64 y2, .int .i64 y3, .int .i64 y4, .int .i64 y5])).run Tryd.prog w = .ok (x0 == y0 && (x1 == y1 && (x2 == y2 && (x3 == y3 && (x4 == y4 && (x5 == y5)))))) w := by
  refine eqA_of Tryd.underlying114 (by kernel_rfl) ?_
  refine eqf_cons (by rfl) (by go_simp; rfl) (by go_simp; rfl) (by go_simp) ?_
  refine eqf_cons (by rfl) (by go_simp; rfl) (by go_simp; rfl) (by go_simp) ?_
  refine eqf_cons (by rfl) (by go_simp; rfl) (by go_simp; rfl) (by go_simp) ?_
  refine eqf_cons (by rfl) (by go_simp; rfl) (by go_simp; rfl) (by go_simp) ?_
  refine eqf_cons (by rfl) (by go_simp; rfl) (by go_simp; rfl) (by go_simp) ?_
  exact eqf_last (by rfl) (by go_simp; rfl) (by go_simp; rfl) (by go_simp)
theorem eqLms (d : Nat) (w : World) (x0 y0 : Int) (x1 y1 : Bool) (x2 y2 : Int) (x3 y3 : Int) :
    (Op.equalIn (d + 2) 112 (.agg #[.int .u32 x0, .bool x1, .int .i64 x2, .int .i64 x3]) (.agg #[.int .u32 y0, .bool y1, .int .i64 y2, .int .i64 y3])).run Tryd.prog w = .ok (x0 == y0 && (x1 == y1 && (x2 == y2 && (x3 == y3)))) w := by
  refine eqA_of Tryd.underlying112 (by kernel_rfl) ?_
  refine eqf_cons (by rfl) (by go_simp; rfl) (by go_simp; rfl) (by go_simp) ?_
  refine eqf_cons (by rfl) (by go_simp; rfl) (by go_simp; rfl) (by go_simp) ?_
  refine eqf_cons (by rfl) (by go_simp; rfl) (by go_simp; rfl) (by go_simp) ?_
  exact eqf_last (by rfl) (by go_simp; rfl) (by go_simp; rfl) (by go_simp)
theorem eqXms (d : Nat) (w : World) (x0 y0 : Int) (x1 y1 : Bool) (x2 y2 : Int) (x3 y3 : Int) (x4 y4 : Int) :
    (Op.equalIn (d + 2) 87 (.agg #[.int .u32 x0, .bool x1, .int .i64 x2, .int .i64 x3, .int .i64 x4]) (.agg #[.int .u32 y0, .bool y1, .int .i64 y2, .int .i64 y3, .int .i64 y4])).run Tryd.prog w = .ok (x0 == y0 && (x1 == y1 && (x2 == y2 && (x3 == y3 && (x4 == y4))))) w := by
  refine eqA_of Tryd.underlying87 (by kernel_rfl) ?_
  refine eqf_cons (by rfl) (by go_simp; rfl) (by go_simp; rfl) (by go_simp) ?_
  refine eqf_cons (by rfl) (by go_simp; rfl) (by go_simp; rfl) (by go_simp) ?_
  refine eqf_cons (by rfl) (by go_simp; rfl) (by go_simp; rfl) (by go_simp) ?_
  refine eqf_cons (by rfl) (by go_simp; rfl) (by go_simp; rfl) (by go_simp) ?_
  exact eqf_last (by rfl) (by go_simp; rfl) (by go_simp; rfl) (by go_simp)
attribute [local go_sem high] eqOts eqLms eqXms

def eqO (x o : OtsR) : Bool := x.code == o.code && (x.shake == o.shake && (x.n == o.n && (x.w == o.w && (x.p == o.p && (x.ls == o.ls)))))
def eqL (x o : LmsR) : Bool := x.code == o.code && (x.shake == o.shake && (x.n == o.n && (x.h == o.h)))
def isOtsS (o : OtsR) : Bool := if (ots o.code).2 = 0 then eqO (ots o.code).1 o else false
def isLmsS (o : LmsR) : Bool := if (lms o.code).2 = 0 then eqL (lms o.code).1 o else false
def fitS (l : LmsR) (o : OtsR) : Bool := if isLmsS l = true then if isOtsS o = true then if (l.shake == o.shake) = true then l.n == o.n else false else false else false
theorem below_box {w v : World} {o : Obj} (h : Below (w.alloc o).heap.size (w.alloc o) v) : Below w.heap.size w v := ((Below.refl _ _).alloc (Nat.le_refl _) _).trans (h.mono (by simp))
set_option maxHeartbeats 1000000 in
set_option maxRecDepth 100000 in
theorem c_isOts (o : OtsR) (w : World) (g0 : 0 ≤ o.code) (g1 : o.code < 4294967296) :
    Calls Tryd.prog 98 #[o.enc] w fun e w' => e = .returned (.bool (isOtsS o)) ∧ Below w.heap.size w w' := by
  have Co := fun w => c_Ots o.code w g0
  unfold isOtsS
  unfold eqO
  generalize hx : ots o.code = x at *
  obtain ⟨⟨a0, a1, a2, a3, a4, a5⟩, er⟩ := x
  have he : er = 0 ∨ er = 60 := by have := ots_err o.code; rw [hx] at this; exact this
  obtain ⟨b0, b1, b2, b3, b4, b5⟩ := o
  simp only [OtsR.enc] at *
  have co := Lib.hid Co; clear Co hx
  rcases he with rfl | rfl
  · rw [if_pos rfl]
    go_enter Tryd.func98, Tryd.ntmps98
    go_wp2_with (first
        | (go_at_call 87; refine (co.out _).mono ?_; rintro e v1 ⟨rfl, hb1⟩; obtain ⟨hc, hf⟩ := bcell hb1; have hz : w.heap.size < v1.heap.size := by (have hz0 := hb1.size; simp at hz0; omega)))
    go_ret
    exact ⟨rfl, (below_box hb1).alloc (below_box hb1).size _⟩
  · rw [if_neg (by decide)]
    go_enter Tryd.func98, Tryd.ntmps98
    go_wp2_with (first
        | (go_at_call 87; refine (co.out _).mono ?_; rintro e v1 ⟨rfl, hb1⟩; obtain ⟨hc, hf⟩ := bcell hb1; have hz : w.heap.size < v1.heap.size := by (have hz0 := hb1.size; simp at hz0; omega)))
    go_ret
    exact ⟨rfl, (below_box hb1).alloc (below_box hb1).size _⟩
set_option maxHeartbeats 1000000 in
set_option maxRecDepth 100000 in
theorem c_isLms (o : LmsR) (w : World) (g0 : 0 ≤ o.code) (g1 : o.code < 4294967296) :
    Calls Tryd.prog 97 #[o.enc] w fun e w' => e = .returned (.bool (isLmsS o)) ∧ Below w.heap.size w w' := by
  have Co := fun w => c_Lms o.code w g0 g1
  unfold isLmsS
  unfold eqL
  generalize hx : lms o.code = x at *
  obtain ⟨⟨a0, a1, a2, a3⟩, er⟩ := x
  have he : er = 0 ∨ er = 60 := by have := lms_err o.code; rw [hx] at this; exact this
  obtain ⟨b0, b1, b2, b3⟩ := o
  simp only [LmsR.enc] at *
  have co := Lib.hid Co; clear Co hx
  rcases he with rfl | rfl
  · rw [if_pos rfl]
    go_enter Tryd.func97, Tryd.ntmps97
    go_wp2_with (first
        | (go_at_call 86; refine (co.out _).mono ?_; rintro e v1 ⟨rfl, hb1⟩; obtain ⟨hc, hf⟩ := bcell hb1; have hz : w.heap.size < v1.heap.size := by (have hz0 := hb1.size; simp at hz0; omega)))
    go_ret
    exact ⟨rfl, (below_box hb1).alloc (below_box hb1).size _⟩
  · rw [if_neg (by decide)]
    go_enter Tryd.func97, Tryd.ntmps97
    go_wp2_with (first
        | (go_at_call 86; refine (co.out _).mono ?_; rintro e v1 ⟨rfl, hb1⟩; obtain ⟨hc, hf⟩ := bcell hb1; have hz : w.heap.size < v1.heap.size := by (have hz0 := hb1.size; simp at hz0; omega)))
    go_ret
    exact ⟨rfl, (below_box hb1).alloc (below_box hb1).size _⟩
set_option maxHeartbeats 1000000 in
set_option maxRecDepth 100000 in
theorem c_Fit (l : LmsR) (o : OtsR) (w : World) (l0 : 0 ≤ l.code) (l1 : l.code < 4294967296) (g0 : 0 ≤ o.code) (g1 : o.code < 4294967296) :
    Calls Tryd.prog 88 #[l.enc, o.enc] w fun e w' => e = .returned (.bool (fitS l o)) ∧ Below w.heap.size w w' := by
  have Cl := fun w => c_isLms l w l0 l1
  have Co := fun w => c_isOts o w g0 g1
  unfold fitS
  obtain ⟨a0, a1, a2, a3⟩ := l
  obtain ⟨b0, b1, b2, b3, b4, b5⟩ := o
  generalize isLmsS _ = p at *
  generalize isOtsS _ = q at *
  simp only [LmsR.enc, OtsR.enc] at *
  have cl := Lib.hid Cl; have co := Lib.hid Co; clear Cl Co
  cases p with
  | false =>
    rw [if_neg (by decide)]
    go_enter Tryd.func88, Tryd.ntmps88
    go_wp2_with (first
        | (go_at_call 97; refine (cl.out _).mono ?_; rintro e v1 ⟨rfl, hb1⟩; obtain ⟨hc, hf⟩ := bcell hb1; have hz : w.heap.size + 1 < v1.heap.size := (by (have hz0 := hb1.size; simp at hz0; omega)); have hzA : w.heap.size < v1.heap.size := by omega)
        | (go_at_call 98; refine (co.out _).mono ?_; rintro e v2 ⟨rfl, hb2⟩; obtain ⟨hc2, hf2⟩ := bcell hb2; have hz2 : w.heap.size + 1 < v2.heap.size := by (have hz0 := hb2.size; omega)))
    go_ret
    exact ⟨rfl, below_box (below_box hb1)⟩
  | true =>
    rw [if_pos rfl]
    cases q with
    | false =>
      rw [if_neg (by decide)]
      go_enter Tryd.func88, Tryd.ntmps88
      go_wp2_with (first
          | (go_at_call 97; refine (cl.out _).mono ?_; rintro e v1 ⟨rfl, hb1⟩; obtain ⟨hc, hf⟩ := bcell hb1; have hz : w.heap.size + 1 < v1.heap.size := (by (have hz0 := hb1.size; simp at hz0; omega)); have hzA : w.heap.size < v1.heap.size := by omega)
          | (go_at_call 98; refine (co.out _).mono ?_; rintro e v2 ⟨rfl, hb2⟩; obtain ⟨hc2, hf2⟩ := bcell hb2; have hz2 : w.heap.size + 1 < v2.heap.size := by (have hz0 := hb2.size; omega)))
      go_ret
      exact ⟨rfl, below_step (below_box (below_box hb1)) hb2⟩
    | true =>
      rw [if_pos rfl]
      cases t : (a1 == b1) with
      | false =>
        rw [if_neg (by decide)]
        go_enter Tryd.func88, Tryd.ntmps88
        go_wp2_with (first
            | (go_at_call 97; refine (cl.out _).mono ?_; rintro e v1 ⟨rfl, hb1⟩; obtain ⟨hc, hf⟩ := bcell hb1; have hz : w.heap.size + 1 < v1.heap.size := (by (have hz0 := hb1.size; simp at hz0; omega)); have hzA : w.heap.size < v1.heap.size := by omega)
            | (go_at_call 98; refine (co.out _).mono ?_; rintro e v2 ⟨rfl, hb2⟩; obtain ⟨hc2, hf2⟩ := bcell hb2; have hz2 : w.heap.size + 1 < v2.heap.size := by (have hz0 := hb2.size; omega)))
        go_ret
        exact ⟨rfl, below_step (below_box (below_box hb1)) hb2⟩
      | true =>
        rw [if_pos rfl]
        go_enter Tryd.func88, Tryd.ntmps88
        go_wp2_with (first
            | (go_at_call 97; refine (cl.out _).mono ?_; rintro e v1 ⟨rfl, hb1⟩; obtain ⟨hc, hf⟩ := bcell hb1; have hz : w.heap.size + 1 < v1.heap.size := (by (have hz0 := hb1.size; simp at hz0; omega)); have hzA : w.heap.size < v1.heap.size := by omega)
            | (go_at_call 98; refine (co.out _).mono ?_; rintro e v2 ⟨rfl, hb2⟩; obtain ⟨hc2, hf2⟩ := bcell hb2; have hz2 : w.heap.size + 1 < v2.heap.size := by (have hz0 := hb2.size; omega)))
        go_ret
        exact ⟨rfl, below_step (below_box (below_box hb1)) hb2⟩
end Go.Proofs.YtpdinahdcedmkaaDoor.ExtP
/- How long a set's name is. -/
namespace Go.Proofs.YtpdinahdcedmkaaDoor.Ext
set_option linter.unusedVariables false
open Go.RowKit Go.Proofs.YtpdinahdcedmkaaDoorW.PrintWords Go.Proofs.YtpdinahdcedmkaaDoorW.PrintLast Go.Proofs.YtpdinahdcedmkaaDoorW.PrintMore Go.Proofs.YtpdinahdcedmkaaDoor.Spec

def decS (n : Int) : ByteArray := strOfNums (decL n.toNat)
theorem decS_size (n : Int) (h1 : n < 18446744073709551616) : (decS n).size ≤ 20 := by
  have := decL_len 19 n.toNat (by omega)
  unfold decS
  rw [strOfNums_size]
  exact this
theorem decP_size (n : Int) (h0 : 0 ≤ n) (h1 : n < 100000) : (ExtP.decS n).size ≤ 20 := ExtP.decS_size n h0 (by omega)
theorem nameS_size (k c : Int) : (ExtP.nameS k c).size ≤ 100 := by
  unfold ExtP.nameS
  split
  · split
    · have := ExtP.ots_bd c
      have z1 := decP_size (ots c).1.n this.1 this.2.1
      have z2 := decP_size (ots c).1.w this.2.2.1 this.2.2.2
      have z3 := ExtP.sumS_size (ots c).1.shake
      unfold ExtP.name1S
      simp only [ByteArray.size_append]
      show 6 + _ + 2 + _ + 2 + _ ≤ _
      omega
    · split
      · have := ExtP.lms_bd c
        have z1 := decP_size (lms c).1.n this.1 this.2.1
        have z2 := decP_size (lms c).1.h this.2.2.1 this.2.2.2
        have z3 := ExtP.sumS_size (lms c).1.shake
        unfold ExtP.name2S
        simp only [ByteArray.size_append]
        show 4 + _ + 2 + _ + 2 + _ ≤ _
        omega
      · have := ExtP.xms_bd c
        have z1 := decP_size (xms c).1.h this.1 this.2.1
        have z2 := ExtP.decS_size (8 * (xms c).1.n) (by omega) (by omega)
        have z3 := ExtP.sumX_size (xms c).1.shake
        unfold ExtP.name3S
        simp only [ByteArray.size_append]
        show 5 + _ + 1 + _ + 1 + _ ≤ _
        omega
  · decide
end Go.Proofs.YtpdinahdcedmkaaDoor.Ext
