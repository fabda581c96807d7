import Derived.Test.YtpdinahdcedmkaaGreatDoorPVals
/- liveryref06's functions on plain values do what Spec says: bytes, power, bits, up, Ots, own, Lms, Xmss, Is. -/
namespace Go.Proofs.YtpdinahdcedmkaaGreatDoor.ExtP
open Go.Proofs.YtpdinahdcedmkaaGreatDoor.Ext
set_option linter.unusedVariables false
set_option linter.unusedSimpArgs false
open Go.RowKit Go.Proofs.YtpdinahdcedmkaaGreatDoorW.PrintWords Go.Proofs.YtpdinahdcedmkaaGreatDoor.Spec

set_option maxHeartbeats 1000000 in
set_option maxRecDepth 100000 in
theorem r_bytes (f : Int) (w : World) (h0 : 0 ≤ f) (h1 : f ≤ 3) :
    Calls Tryz.prog 144 #[.int .i64 f] w fun e w' => e = .returned (.int .i64 (fBytes f)) ∧ w' = w := by
  obtain rfl | rfl | rfl | rfl : f = 0 ∨ f = 1 ∨ f = 2 ∨ f = 3 := by omega
  all_goals
    go_enter Tryz.func144, Tryz.ntmps144
    go_wp2
    go_ret
    exact ⟨rfl, rfl⟩
set_option maxHeartbeats 1000000 in
set_option maxRecDepth 100000 in
theorem r_power (n : Nat) (w : World) (hn : n ≤ 40) :
    Calls Tryz.prog 145 #[.int .i64 n] w fun e w' => e = .returned (.int .i64 ((2 ^ n : Nat) : Int)) ∧ w' = w := by
  go_enter Tryz.func145, Tryz.ntmps145
  go_wp2
  go_loop [3, 5] (fun p i => ∃ (k m : Nat), k ≤ n ∧ i = .int .i64 k ∧ p = .int .i64 m ∧ Aside0 (m = 2 ^ k)) (fun _ i => n - (intOf i).toNat)
  case atStart => exact ⟨0, 1, by omega, rfl, rfl, ⟨rfl⟩⟩
  case round =>
    obtain ⟨k, m, hk, rfl, rfl, hm⟩ := hrel
    have hb : m ≤ 1099511627776 := by
      rw [hm.out]
      have : 2 ^ k ≤ 2 ^ 40 := Nat.pow_le_pow_right (by omega) (by omega)
      omega
    by_cases hlt : k < n
    · go_wp2
      go_round
      case rel => exact ⟨k + 1, m * 2, by omega, by go_num, by go_num, ⟨by rw [hm.out, Nat.pow_succ]⟩⟩
      case measure => simp [intOf]; omega
    · have hm2 : Aside0 (m = 2 ^ n) := ⟨by rw [hm.out, show k = n by omega]⟩
      go_wp2
      go_ret
      exact ⟨by rw [hm2.out]; simp, rfl⟩
set_option maxHeartbeats 1000000 in
set_option maxRecDepth 100000 in
theorem r_bits (n b : Nat) (w : World) (hn : n < 1099511627776) (h0 : n < 2 ^ b) (h1 : ∀ k, k < b → 2 ^ k ≤ n) (hb : b ≤ 40) :
    Calls Tryz.prog 147 #[.int .i64 n] w fun e w' => e = .returned (.int .i64 (b : Int)) ∧ w' = w := by
  have H0 := Aside0.mk h0
  have H1 := Aside0.mk h1
  clear h0 h1
  go_enter Tryz.func147, Tryz.ntmps147
  go_wp2
  go_loop [3] (fun i => ∃ k : Nat, k ≤ b ∧ i = .int .i64 k) (fun i => b - (intOf i).toNat)
  case atStart => exact ⟨0, by omega, rfl⟩
  case round =>
    obtain ⟨k, hk, rfl⟩ := hrel
    by_cases hlt : k < b
    · have hp := H1.out k hlt
      obtain ⟨p, hpe⟩ : ∃ p : Nat, 2 ^ k = p := ⟨_, rfl⟩
      have Cp := fun w => r_power k w (by omega)
      rw [hpe] at Cp hp
      have cp := Lib.hid Cp; clear Cp hpe
      have hp2 : (p : Int) ≤ n := by omega
      go_wp2_with (first
        | (go_at_call 145; refine (cp.out _).mono ?_; rintro e w' ⟨rfl, rfl⟩))
      go_round
      case rel => exact ⟨k + 1, by omega, by go_num⟩
      case measure => simp [intOf]; omega
    · obtain rfl : k = b := by omega
      have hp := H0.out
      obtain ⟨p, hpe⟩ : ∃ p : Nat, 2 ^ k = p := ⟨_, rfl⟩
      have Cp := fun w => r_power k w (by omega)
      rw [hpe] at Cp hp
      have cp := Lib.hid Cp; clear Cp hpe
      have hp2 : (n : Int) < p := by omega
      go_wp2_with (first
        | (go_at_call 145; refine (cp.out _).mono ?_; rintro e w' ⟨rfl, rfl⟩))
      go_ret
      exact ⟨rfl, rfl⟩
set_option maxHeartbeats 1000000 in
set_option maxRecDepth 100000 in
theorem r_up (a b : Int) (w : World) (h0 : 0 ≤ a) (h1 : a ≤ 1000) (h2 : 1 ≤ b) (h3 : b ≤ 100) :
    Calls Tryz.prog 146 #[.int .i64 a, .int .i64 b] w fun e w' => e = .returned (.int .i64 ((a + b - 1) / b)) ∧ w' = w := by
  have hd : 0 ≤ (a + b - 1) / b := Int.ediv_nonneg (by omega) (by omega)
  have hd2 : (a + b - 1) / b ≤ a + b - 1 := Int.ediv_le_self _ (by omega)
  have hne : ¬ b = 0 := by omega
  go_enter Tryz.func146, Tryz.ntmps146
  go_wp2
  go_ret
  exact ⟨rfl, rfl⟩
set_option maxHeartbeats 1000000 in
set_option maxRecDepth 100000 in
theorem r_ots1 (w : World) : Calls Tryz.prog 117 #[.int .u32 1] w fun e w' => e = .returned (.tuple #[.agg #[.int .u32 1, .bool false, .int .i64 32, .int .i64 1, .int .i64 265, .int .i64 7], .int .i64 0]) ∧ Below w.heap.size w w' := by
  have B1 : ∀ w, Calls Tryz.prog 144 #[.int .i64 0] w fun e w' => e = .returned (.int .i64 32) ∧ w' = w := fun w => r_bytes 0 w (by omega) (by omega)
  have P1 : ∀ w, Calls Tryz.prog 145 #[.int .i64 0] w fun e w' => e = .returned (.int .i64 1) ∧ w' = w := fun w => r_power 0 w (by omega)
  have P2 : ∀ w, Calls Tryz.prog 145 #[.int .i64 1] w fun e w' => e = .returned (.int .i64 2) ∧ w' = w := fun w => r_power 1 w (by omega)
  have B2 : ∀ w, Calls Tryz.prog 147 #[.int .i64 256] w fun e w' => e = .returned (.int .i64 9) ∧ w' = w := fun w => r_bits 256 9 w (by omega) (by decide) (by decide) (by omega)
  have U1 : ∀ w, Calls Tryz.prog 146 #[.int .i64 9, .int .i64 1] w fun e w' => e = .returned (.int .i64 9) ∧ w' = w := fun w => r_up 9 1 w (by omega) (by omega) (by omega) (by omega)
  have b1 := Lib.hid B1; have p1 := Lib.hid P1; have p2 := Lib.hid P2; have b2 := Lib.hid B2; have u1 := Lib.hid U1; clear B1 P1 P2 B2 U1
  go_enter Tryz.func117, Tryz.ntmps117
  go_wp2_with fail
  refine (b1.out _).mono ?_
  rintro e w' ⟨rfl, rfl⟩
  go_wp2_with fail
  refine (p1.out _).mono ?_
  rintro e w' ⟨rfl, rfl⟩
  go_wp2_with fail
  refine (p2.out _).mono ?_
  rintro e w' ⟨rfl, rfl⟩
  go_wp2_with fail
  refine (b2.out _).mono ?_
  rintro e w' ⟨rfl, rfl⟩
  go_wp2_with fail
  refine (u1.out _).mono ?_
  rintro e w' ⟨rfl, rfl⟩
  go_wp2_with fail
  exact bodyPost_ret (v := .tuple #[.agg #[.int .u32 1, .bool false, .int .i64 32, .int .i64 1, .int .i64 265, .int .i64 7], .int .i64 0]) (by simp [results, Tryz.results117, go_sem]) rfl ⟨rfl, by repeat (first | exact Below.refl _ _ | refine Below.setCell ?_ (Nat.le_refl _) _ | refine Below.alloc ?_ (Nat.le_refl _) _)⟩
set_option maxHeartbeats 1000000 in
set_option maxRecDepth 100000 in
theorem r_ots2 (w : World) : Calls Tryz.prog 117 #[.int .u32 2] w fun e w' => e = .returned (.tuple #[.agg #[.int .u32 2, .bool false, .int .i64 32, .int .i64 2, .int .i64 133, .int .i64 6], .int .i64 0]) ∧ Below w.heap.size w w' := by
  have B1 : ∀ w, Calls Tryz.prog 144 #[.int .i64 0] w fun e w' => e = .returned (.int .i64 32) ∧ w' = w := fun w => r_bytes 0 w (by omega) (by omega)
  have P1 : ∀ w, Calls Tryz.prog 145 #[.int .i64 1] w fun e w' => e = .returned (.int .i64 2) ∧ w' = w := fun w => r_power 1 w (by omega)
  have P2 : ∀ w, Calls Tryz.prog 145 #[.int .i64 2] w fun e w' => e = .returned (.int .i64 4) ∧ w' = w := fun w => r_power 2 w (by omega)
  have B2 : ∀ w, Calls Tryz.prog 147 #[.int .i64 384] w fun e w' => e = .returned (.int .i64 9) ∧ w' = w := fun w => r_bits 384 9 w (by omega) (by decide) (by decide) (by omega)
  have U1 : ∀ w, Calls Tryz.prog 146 #[.int .i64 9, .int .i64 2] w fun e w' => e = .returned (.int .i64 5) ∧ w' = w := fun w => r_up 9 2 w (by omega) (by omega) (by omega) (by omega)
  have b1 := Lib.hid B1; have p1 := Lib.hid P1; have p2 := Lib.hid P2; have b2 := Lib.hid B2; have u1 := Lib.hid U1; clear B1 P1 P2 B2 U1
  go_enter Tryz.func117, Tryz.ntmps117
  go_wp2_with fail
  refine (b1.out _).mono ?_
  rintro e w' ⟨rfl, rfl⟩
  go_wp2_with fail
  refine (p1.out _).mono ?_
  rintro e w' ⟨rfl, rfl⟩
  go_wp2_with fail
  refine (p2.out _).mono ?_
  rintro e w' ⟨rfl, rfl⟩
  go_wp2_with fail
  refine (b2.out _).mono ?_
  rintro e w' ⟨rfl, rfl⟩
  go_wp2_with fail
  refine (u1.out _).mono ?_
  rintro e w' ⟨rfl, rfl⟩
  go_wp2_with fail
  exact bodyPost_ret (v := .tuple #[.agg #[.int .u32 2, .bool false, .int .i64 32, .int .i64 2, .int .i64 133, .int .i64 6], .int .i64 0]) (by simp [results, Tryz.results117, go_sem]) rfl ⟨rfl, by repeat (first | exact Below.refl _ _ | refine Below.setCell ?_ (Nat.le_refl _) _ | refine Below.alloc ?_ (Nat.le_refl _) _)⟩
set_option maxHeartbeats 1000000 in
set_option maxRecDepth 100000 in
theorem r_ots3 (w : World) : Calls Tryz.prog 117 #[.int .u32 3] w fun e w' => e = .returned (.tuple #[.agg #[.int .u32 3, .bool false, .int .i64 32, .int .i64 4, .int .i64 67, .int .i64 4], .int .i64 0]) ∧ Below w.heap.size w w' := by
  have B1 : ∀ w, Calls Tryz.prog 144 #[.int .i64 0] w fun e w' => e = .returned (.int .i64 32) ∧ w' = w := fun w => r_bytes 0 w (by omega) (by omega)
  have P1 : ∀ w, Calls Tryz.prog 145 #[.int .i64 2] w fun e w' => e = .returned (.int .i64 4) ∧ w' = w := fun w => r_power 2 w (by omega)
  have P2 : ∀ w, Calls Tryz.prog 145 #[.int .i64 4] w fun e w' => e = .returned (.int .i64 16) ∧ w' = w := fun w => r_power 4 w (by omega)
  have B2 : ∀ w, Calls Tryz.prog 147 #[.int .i64 960] w fun e w' => e = .returned (.int .i64 10) ∧ w' = w := fun w => r_bits 960 10 w (by omega) (by decide) (by decide) (by omega)
  have U1 : ∀ w, Calls Tryz.prog 146 #[.int .i64 10, .int .i64 4] w fun e w' => e = .returned (.int .i64 3) ∧ w' = w := fun w => r_up 10 4 w (by omega) (by omega) (by omega) (by omega)
  have b1 := Lib.hid B1; have p1 := Lib.hid P1; have p2 := Lib.hid P2; have b2 := Lib.hid B2; have u1 := Lib.hid U1; clear B1 P1 P2 B2 U1
  go_enter Tryz.func117, Tryz.ntmps117
  go_wp2_with fail
  refine (b1.out _).mono ?_
  rintro e w' ⟨rfl, rfl⟩
  go_wp2_with fail
  refine (p1.out _).mono ?_
  rintro e w' ⟨rfl, rfl⟩
  go_wp2_with fail
  refine (p2.out _).mono ?_
  rintro e w' ⟨rfl, rfl⟩
  go_wp2_with fail
  refine (b2.out _).mono ?_
  rintro e w' ⟨rfl, rfl⟩
  go_wp2_with fail
  refine (u1.out _).mono ?_
  rintro e w' ⟨rfl, rfl⟩
  go_wp2_with fail
  exact bodyPost_ret (v := .tuple #[.agg #[.int .u32 3, .bool false, .int .i64 32, .int .i64 4, .int .i64 67, .int .i64 4], .int .i64 0]) (by simp [results, Tryz.results117, go_sem]) rfl ⟨rfl, by repeat (first | exact Below.refl _ _ | refine Below.setCell ?_ (Nat.le_refl _) _ | refine Below.alloc ?_ (Nat.le_refl _) _)⟩
set_option maxHeartbeats 1000000 in
set_option maxRecDepth 100000 in
theorem r_ots4 (w : World) : Calls Tryz.prog 117 #[.int .u32 4] w fun e w' => e = .returned (.tuple #[.agg #[.int .u32 4, .bool false, .int .i64 32, .int .i64 8, .int .i64 34, .int .i64 0], .int .i64 0]) ∧ Below w.heap.size w w' := by
  have B1 : ∀ w, Calls Tryz.prog 144 #[.int .i64 0] w fun e w' => e = .returned (.int .i64 32) ∧ w' = w := fun w => r_bytes 0 w (by omega) (by omega)
  have P1 : ∀ w, Calls Tryz.prog 145 #[.int .i64 3] w fun e w' => e = .returned (.int .i64 8) ∧ w' = w := fun w => r_power 3 w (by omega)
  have P2 : ∀ w, Calls Tryz.prog 145 #[.int .i64 8] w fun e w' => e = .returned (.int .i64 256) ∧ w' = w := fun w => r_power 8 w (by omega)
  have B2 : ∀ w, Calls Tryz.prog 147 #[.int .i64 8160] w fun e w' => e = .returned (.int .i64 13) ∧ w' = w := fun w => r_bits 8160 13 w (by omega) (by decide) (by decide) (by omega)
  have U1 : ∀ w, Calls Tryz.prog 146 #[.int .i64 13, .int .i64 8] w fun e w' => e = .returned (.int .i64 2) ∧ w' = w := fun w => r_up 13 8 w (by omega) (by omega) (by omega) (by omega)
  have b1 := Lib.hid B1; have p1 := Lib.hid P1; have p2 := Lib.hid P2; have b2 := Lib.hid B2; have u1 := Lib.hid U1; clear B1 P1 P2 B2 U1
  go_enter Tryz.func117, Tryz.ntmps117
  go_wp2_with fail
  refine (b1.out _).mono ?_
  rintro e w' ⟨rfl, rfl⟩
  go_wp2_with fail
  refine (p1.out _).mono ?_
  rintro e w' ⟨rfl, rfl⟩
  go_wp2_with fail
  refine (p2.out _).mono ?_
  rintro e w' ⟨rfl, rfl⟩
  go_wp2_with fail
  refine (b2.out _).mono ?_
  rintro e w' ⟨rfl, rfl⟩
  go_wp2_with fail
  refine (u1.out _).mono ?_
  rintro e w' ⟨rfl, rfl⟩
  go_wp2_with fail
  exact bodyPost_ret (v := .tuple #[.agg #[.int .u32 4, .bool false, .int .i64 32, .int .i64 8, .int .i64 34, .int .i64 0], .int .i64 0]) (by simp [results, Tryz.results117, go_sem]) rfl ⟨rfl, by repeat (first | exact Below.refl _ _ | refine Below.setCell ?_ (Nat.le_refl _) _ | refine Below.alloc ?_ (Nat.le_refl _) _)⟩
set_option maxHeartbeats 1000000 in
set_option maxRecDepth 100000 in
theorem r_ots5 (w : World) : Calls Tryz.prog 117 #[.int .u32 5] w fun e w' => e = .returned (.tuple #[.agg #[.int .u32 5, .bool false, .int .i64 24, .int .i64 1, .int .i64 200, .int .i64 8], .int .i64 0]) ∧ Below w.heap.size w w' := by
  have B1 : ∀ w, Calls Tryz.prog 144 #[.int .i64 1] w fun e w' => e = .returned (.int .i64 24) ∧ w' = w := fun w => r_bytes 1 w (by omega) (by omega)
  have P1 : ∀ w, Calls Tryz.prog 145 #[.int .i64 0] w fun e w' => e = .returned (.int .i64 1) ∧ w' = w := fun w => r_power 0 w (by omega)
  have P2 : ∀ w, Calls Tryz.prog 145 #[.int .i64 1] w fun e w' => e = .returned (.int .i64 2) ∧ w' = w := fun w => r_power 1 w (by omega)
  have B2 : ∀ w, Calls Tryz.prog 147 #[.int .i64 192] w fun e w' => e = .returned (.int .i64 8) ∧ w' = w := fun w => r_bits 192 8 w (by omega) (by decide) (by decide) (by omega)
  have U1 : ∀ w, Calls Tryz.prog 146 #[.int .i64 8, .int .i64 1] w fun e w' => e = .returned (.int .i64 8) ∧ w' = w := fun w => r_up 8 1 w (by omega) (by omega) (by omega) (by omega)
  have b1 := Lib.hid B1; have p1 := Lib.hid P1; have p2 := Lib.hid P2; have b2 := Lib.hid B2; have u1 := Lib.hid U1; clear B1 P1 P2 B2 U1
  go_enter Tryz.func117, Tryz.ntmps117
  go_wp2_with fail
  refine (b1.out _).mono ?_
  rintro e w' ⟨rfl, rfl⟩
  go_wp2_with fail
  refine (p1.out _).mono ?_
  rintro e w' ⟨rfl, rfl⟩
  go_wp2_with fail
  refine (p2.out _).mono ?_
  rintro e w' ⟨rfl, rfl⟩
  go_wp2_with fail
  refine (b2.out _).mono ?_
  rintro e w' ⟨rfl, rfl⟩
  go_wp2_with fail
  refine (u1.out _).mono ?_
  rintro e w' ⟨rfl, rfl⟩
  go_wp2_with fail
  exact bodyPost_ret (v := .tuple #[.agg #[.int .u32 5, .bool false, .int .i64 24, .int .i64 1, .int .i64 200, .int .i64 8], .int .i64 0]) (by simp [results, Tryz.results117, go_sem]) rfl ⟨rfl, by repeat (first | exact Below.refl _ _ | refine Below.setCell ?_ (Nat.le_refl _) _ | refine Below.alloc ?_ (Nat.le_refl _) _)⟩
set_option maxHeartbeats 1000000 in
set_option maxRecDepth 100000 in
theorem r_ots6 (w : World) : Calls Tryz.prog 117 #[.int .u32 6] w fun e w' => e = .returned (.tuple #[.agg #[.int .u32 6, .bool false, .int .i64 24, .int .i64 2, .int .i64 101, .int .i64 6], .int .i64 0]) ∧ Below w.heap.size w w' := by
  have B1 : ∀ w, Calls Tryz.prog 144 #[.int .i64 1] w fun e w' => e = .returned (.int .i64 24) ∧ w' = w := fun w => r_bytes 1 w (by omega) (by omega)
  have P1 : ∀ w, Calls Tryz.prog 145 #[.int .i64 1] w fun e w' => e = .returned (.int .i64 2) ∧ w' = w := fun w => r_power 1 w (by omega)
  have P2 : ∀ w, Calls Tryz.prog 145 #[.int .i64 2] w fun e w' => e = .returned (.int .i64 4) ∧ w' = w := fun w => r_power 2 w (by omega)
  have B2 : ∀ w, Calls Tryz.prog 147 #[.int .i64 288] w fun e w' => e = .returned (.int .i64 9) ∧ w' = w := fun w => r_bits 288 9 w (by omega) (by decide) (by decide) (by omega)
  have U1 : ∀ w, Calls Tryz.prog 146 #[.int .i64 9, .int .i64 2] w fun e w' => e = .returned (.int .i64 5) ∧ w' = w := fun w => r_up 9 2 w (by omega) (by omega) (by omega) (by omega)
  have b1 := Lib.hid B1; have p1 := Lib.hid P1; have p2 := Lib.hid P2; have b2 := Lib.hid B2; have u1 := Lib.hid U1; clear B1 P1 P2 B2 U1
  go_enter Tryz.func117, Tryz.ntmps117
  go_wp2_with fail
  refine (b1.out _).mono ?_
  rintro e w' ⟨rfl, rfl⟩
  go_wp2_with fail
  refine (p1.out _).mono ?_
  rintro e w' ⟨rfl, rfl⟩
  go_wp2_with fail
  refine (p2.out _).mono ?_
  rintro e w' ⟨rfl, rfl⟩
  go_wp2_with fail
  refine (b2.out _).mono ?_
  rintro e w' ⟨rfl, rfl⟩
  go_wp2_with fail
  refine (u1.out _).mono ?_
  rintro e w' ⟨rfl, rfl⟩
  go_wp2_with fail
  exact bodyPost_ret (v := .tuple #[.agg #[.int .u32 6, .bool false, .int .i64 24, .int .i64 2, .int .i64 101, .int .i64 6], .int .i64 0]) (by simp [results, Tryz.results117, go_sem]) rfl ⟨rfl, by repeat (first | exact Below.refl _ _ | refine Below.setCell ?_ (Nat.le_refl _) _ | refine Below.alloc ?_ (Nat.le_refl _) _)⟩
set_option maxHeartbeats 1000000 in
set_option maxRecDepth 100000 in
theorem r_ots7 (w : World) : Calls Tryz.prog 117 #[.int .u32 7] w fun e w' => e = .returned (.tuple #[.agg #[.int .u32 7, .bool false, .int .i64 24, .int .i64 4, .int .i64 51, .int .i64 4], .int .i64 0]) ∧ Below w.heap.size w w' := by
  have B1 : ∀ w, Calls Tryz.prog 144 #[.int .i64 1] w fun e w' => e = .returned (.int .i64 24) ∧ w' = w := fun w => r_bytes 1 w (by omega) (by omega)
  have P1 : ∀ w, Calls Tryz.prog 145 #[.int .i64 2] w fun e w' => e = .returned (.int .i64 4) ∧ w' = w := fun w => r_power 2 w (by omega)
  have P2 : ∀ w, Calls Tryz.prog 145 #[.int .i64 4] w fun e w' => e = .returned (.int .i64 16) ∧ w' = w := fun w => r_power 4 w (by omega)
  have B2 : ∀ w, Calls Tryz.prog 147 #[.int .i64 720] w fun e w' => e = .returned (.int .i64 10) ∧ w' = w := fun w => r_bits 720 10 w (by omega) (by decide) (by decide) (by omega)
  have U1 : ∀ w, Calls Tryz.prog 146 #[.int .i64 10, .int .i64 4] w fun e w' => e = .returned (.int .i64 3) ∧ w' = w := fun w => r_up 10 4 w (by omega) (by omega) (by omega) (by omega)
  have b1 := Lib.hid B1; have p1 := Lib.hid P1; have p2 := Lib.hid P2; have b2 := Lib.hid B2; have u1 := Lib.hid U1; clear B1 P1 P2 B2 U1
  go_enter Tryz.func117, Tryz.ntmps117
  go_wp2_with fail
  refine (b1.out _).mono ?_
  rintro e w' ⟨rfl, rfl⟩
  go_wp2_with fail
  refine (p1.out _).mono ?_
  rintro e w' ⟨rfl, rfl⟩
  go_wp2_with fail
  refine (p2.out _).mono ?_
  rintro e w' ⟨rfl, rfl⟩
  go_wp2_with fail
  refine (b2.out _).mono ?_
  rintro e w' ⟨rfl, rfl⟩
  go_wp2_with fail
  refine (u1.out _).mono ?_
  rintro e w' ⟨rfl, rfl⟩
  go_wp2_with fail
  exact bodyPost_ret (v := .tuple #[.agg #[.int .u32 7, .bool false, .int .i64 24, .int .i64 4, .int .i64 51, .int .i64 4], .int .i64 0]) (by simp [results, Tryz.results117, go_sem]) rfl ⟨rfl, by repeat (first | exact Below.refl _ _ | refine Below.setCell ?_ (Nat.le_refl _) _ | refine Below.alloc ?_ (Nat.le_refl _) _)⟩
set_option maxHeartbeats 1000000 in
set_option maxRecDepth 100000 in
theorem r_ots8 (w : World) : Calls Tryz.prog 117 #[.int .u32 8] w fun e w' => e = .returned (.tuple #[.agg #[.int .u32 8, .bool false, .int .i64 24, .int .i64 8, .int .i64 26, .int .i64 0], .int .i64 0]) ∧ Below w.heap.size w w' := by
  have B1 : ∀ w, Calls Tryz.prog 144 #[.int .i64 1] w fun e w' => e = .returned (.int .i64 24) ∧ w' = w := fun w => r_bytes 1 w (by omega) (by omega)
  have P1 : ∀ w, Calls Tryz.prog 145 #[.int .i64 3] w fun e w' => e = .returned (.int .i64 8) ∧ w' = w := fun w => r_power 3 w (by omega)
  have P2 : ∀ w, Calls Tryz.prog 145 #[.int .i64 8] w fun e w' => e = .returned (.int .i64 256) ∧ w' = w := fun w => r_power 8 w (by omega)
  have B2 : ∀ w, Calls Tryz.prog 147 #[.int .i64 6120] w fun e w' => e = .returned (.int .i64 13) ∧ w' = w := fun w => r_bits 6120 13 w (by omega) (by decide) (by decide) (by omega)
  have U1 : ∀ w, Calls Tryz.prog 146 #[.int .i64 13, .int .i64 8] w fun e w' => e = .returned (.int .i64 2) ∧ w' = w := fun w => r_up 13 8 w (by omega) (by omega) (by omega) (by omega)
  have b1 := Lib.hid B1; have p1 := Lib.hid P1; have p2 := Lib.hid P2; have b2 := Lib.hid B2; have u1 := Lib.hid U1; clear B1 P1 P2 B2 U1
  go_enter Tryz.func117, Tryz.ntmps117
  go_wp2_with fail
  refine (b1.out _).mono ?_
  rintro e w' ⟨rfl, rfl⟩
  go_wp2_with fail
  refine (p1.out _).mono ?_
  rintro e w' ⟨rfl, rfl⟩
  go_wp2_with fail
  refine (p2.out _).mono ?_
  rintro e w' ⟨rfl, rfl⟩
  go_wp2_with fail
  refine (b2.out _).mono ?_
  rintro e w' ⟨rfl, rfl⟩
  go_wp2_with fail
  refine (u1.out _).mono ?_
  rintro e w' ⟨rfl, rfl⟩
  go_wp2_with fail
  exact bodyPost_ret (v := .tuple #[.agg #[.int .u32 8, .bool false, .int .i64 24, .int .i64 8, .int .i64 26, .int .i64 0], .int .i64 0]) (by simp [results, Tryz.results117, go_sem]) rfl ⟨rfl, by repeat (first | exact Below.refl _ _ | refine Below.setCell ?_ (Nat.le_refl _) _ | refine Below.alloc ?_ (Nat.le_refl _) _)⟩
set_option maxHeartbeats 1000000 in
set_option maxRecDepth 100000 in
theorem r_ots9 (w : World) : Calls Tryz.prog 117 #[.int .u32 9] w fun e w' => e = .returned (.tuple #[.agg #[.int .u32 9, .bool true, .int .i64 32, .int .i64 1, .int .i64 265, .int .i64 7], .int .i64 0]) ∧ Below w.heap.size w w' := by
  have B1 : ∀ w, Calls Tryz.prog 144 #[.int .i64 2] w fun e w' => e = .returned (.int .i64 32) ∧ w' = w := fun w => r_bytes 2 w (by omega) (by omega)
  have P1 : ∀ w, Calls Tryz.prog 145 #[.int .i64 0] w fun e w' => e = .returned (.int .i64 1) ∧ w' = w := fun w => r_power 0 w (by omega)
  have P2 : ∀ w, Calls Tryz.prog 145 #[.int .i64 1] w fun e w' => e = .returned (.int .i64 2) ∧ w' = w := fun w => r_power 1 w (by omega)
  have B2 : ∀ w, Calls Tryz.prog 147 #[.int .i64 256] w fun e w' => e = .returned (.int .i64 9) ∧ w' = w := fun w => r_bits 256 9 w (by omega) (by decide) (by decide) (by omega)
  have U1 : ∀ w, Calls Tryz.prog 146 #[.int .i64 9, .int .i64 1] w fun e w' => e = .returned (.int .i64 9) ∧ w' = w := fun w => r_up 9 1 w (by omega) (by omega) (by omega) (by omega)
  have b1 := Lib.hid B1; have p1 := Lib.hid P1; have p2 := Lib.hid P2; have b2 := Lib.hid B2; have u1 := Lib.hid U1; clear B1 P1 P2 B2 U1
  go_enter Tryz.func117, Tryz.ntmps117
  go_wp2_with fail
  refine (b1.out _).mono ?_
  rintro e w' ⟨rfl, rfl⟩
  go_wp2_with fail
  refine (p1.out _).mono ?_
  rintro e w' ⟨rfl, rfl⟩
  go_wp2_with fail
  refine (p2.out _).mono ?_
  rintro e w' ⟨rfl, rfl⟩
  go_wp2_with fail
  refine (b2.out _).mono ?_
  rintro e w' ⟨rfl, rfl⟩
  go_wp2_with fail
  refine (u1.out _).mono ?_
  rintro e w' ⟨rfl, rfl⟩
  go_wp2_with fail
  exact bodyPost_ret (v := .tuple #[.agg #[.int .u32 9, .bool true, .int .i64 32, .int .i64 1, .int .i64 265, .int .i64 7], .int .i64 0]) (by simp [results, Tryz.results117, go_sem]) rfl ⟨rfl, by repeat (first | exact Below.refl _ _ | refine Below.setCell ?_ (Nat.le_refl _) _ | refine Below.alloc ?_ (Nat.le_refl _) _)⟩
set_option maxHeartbeats 1000000 in
set_option maxRecDepth 100000 in
theorem r_ots10 (w : World) : Calls Tryz.prog 117 #[.int .u32 10] w fun e w' => e = .returned (.tuple #[.agg #[.int .u32 10, .bool true, .int .i64 32, .int .i64 2, .int .i64 133, .int .i64 6], .int .i64 0]) ∧ Below w.heap.size w w' := by
  have B1 : ∀ w, Calls Tryz.prog 144 #[.int .i64 2] w fun e w' => e = .returned (.int .i64 32) ∧ w' = w := fun w => r_bytes 2 w (by omega) (by omega)
  have P1 : ∀ w, Calls Tryz.prog 145 #[.int .i64 1] w fun e w' => e = .returned (.int .i64 2) ∧ w' = w := fun w => r_power 1 w (by omega)
  have P2 : ∀ w, Calls Tryz.prog 145 #[.int .i64 2] w fun e w' => e = .returned (.int .i64 4) ∧ w' = w := fun w => r_power 2 w (by omega)
  have B2 : ∀ w, Calls Tryz.prog 147 #[.int .i64 384] w fun e w' => e = .returned (.int .i64 9) ∧ w' = w := fun w => r_bits 384 9 w (by omega) (by decide) (by decide) (by omega)
  have U1 : ∀ w, Calls Tryz.prog 146 #[.int .i64 9, .int .i64 2] w fun e w' => e = .returned (.int .i64 5) ∧ w' = w := fun w => r_up 9 2 w (by omega) (by omega) (by omega) (by omega)
  have b1 := Lib.hid B1; have p1 := Lib.hid P1; have p2 := Lib.hid P2; have b2 := Lib.hid B2; have u1 := Lib.hid U1; clear B1 P1 P2 B2 U1
  go_enter Tryz.func117, Tryz.ntmps117
  go_wp2_with fail
  refine (b1.out _).mono ?_
  rintro e w' ⟨rfl, rfl⟩
  go_wp2_with fail
  refine (p1.out _).mono ?_
  rintro e w' ⟨rfl, rfl⟩
  go_wp2_with fail
  refine (p2.out _).mono ?_
  rintro e w' ⟨rfl, rfl⟩
  go_wp2_with fail
  refine (b2.out _).mono ?_
  rintro e w' ⟨rfl, rfl⟩
  go_wp2_with fail
  refine (u1.out _).mono ?_
  rintro e w' ⟨rfl, rfl⟩
  go_wp2_with fail
  exact bodyPost_ret (v := .tuple #[.agg #[.int .u32 10, .bool true, .int .i64 32, .int .i64 2, .int .i64 133, .int .i64 6], .int .i64 0]) (by simp [results, Tryz.results117, go_sem]) rfl ⟨rfl, by repeat (first | exact Below.refl _ _ | refine Below.setCell ?_ (Nat.le_refl _) _ | refine Below.alloc ?_ (Nat.le_refl _) _)⟩
set_option maxHeartbeats 1000000 in
set_option maxRecDepth 100000 in
theorem r_ots11 (w : World) : Calls Tryz.prog 117 #[.int .u32 11] w fun e w' => e = .returned (.tuple #[.agg #[.int .u32 11, .bool true, .int .i64 32, .int .i64 4, .int .i64 67, .int .i64 4], .int .i64 0]) ∧ Below w.heap.size w w' := by
  have B1 : ∀ w, Calls Tryz.prog 144 #[.int .i64 2] w fun e w' => e = .returned (.int .i64 32) ∧ w' = w := fun w => r_bytes 2 w (by omega) (by omega)
  have P1 : ∀ w, Calls Tryz.prog 145 #[.int .i64 2] w fun e w' => e = .returned (.int .i64 4) ∧ w' = w := fun w => r_power 2 w (by omega)
  have P2 : ∀ w, Calls Tryz.prog 145 #[.int .i64 4] w fun e w' => e = .returned (.int .i64 16) ∧ w' = w := fun w => r_power 4 w (by omega)
  have B2 : ∀ w, Calls Tryz.prog 147 #[.int .i64 960] w fun e w' => e = .returned (.int .i64 10) ∧ w' = w := fun w => r_bits 960 10 w (by omega) (by decide) (by decide) (by omega)
  have U1 : ∀ w, Calls Tryz.prog 146 #[.int .i64 10, .int .i64 4] w fun e w' => e = .returned (.int .i64 3) ∧ w' = w := fun w => r_up 10 4 w (by omega) (by omega) (by omega) (by omega)
  have b1 := Lib.hid B1; have p1 := Lib.hid P1; have p2 := Lib.hid P2; have b2 := Lib.hid B2; have u1 := Lib.hid U1; clear B1 P1 P2 B2 U1
  go_enter Tryz.func117, Tryz.ntmps117
  go_wp2_with fail
  refine (b1.out _).mono ?_
  rintro e w' ⟨rfl, rfl⟩
  go_wp2_with fail
  refine (p1.out _).mono ?_
  rintro e w' ⟨rfl, rfl⟩
  go_wp2_with fail
  refine (p2.out _).mono ?_
  rintro e w' ⟨rfl, rfl⟩
  go_wp2_with fail
  refine (b2.out _).mono ?_
  rintro e w' ⟨rfl, rfl⟩
  go_wp2_with fail
  refine (u1.out _).mono ?_
  rintro e w' ⟨rfl, rfl⟩
  go_wp2_with fail
  exact bodyPost_ret (v := .tuple #[.agg #[.int .u32 11, .bool true, .int .i64 32, .int .i64 4, .int .i64 67, .int .i64 4], .int .i64 0]) (by simp [results, Tryz.results117, go_sem]) rfl ⟨rfl, by repeat (first | exact Below.refl _ _ | refine Below.setCell ?_ (Nat.le_refl _) _ | refine Below.alloc ?_ (Nat.le_refl _) _)⟩
set_option maxHeartbeats 1000000 in
set_option maxRecDepth 100000 in
theorem r_ots12 (w : World) : Calls Tryz.prog 117 #[.int .u32 12] w fun e w' => e = .returned (.tuple #[.agg #[.int .u32 12, .bool true, .int .i64 32, .int .i64 8, .int .i64 34, .int .i64 0], .int .i64 0]) ∧ Below w.heap.size w w' := by
  have B1 : ∀ w, Calls Tryz.prog 144 #[.int .i64 2] w fun e w' => e = .returned (.int .i64 32) ∧ w' = w := fun w => r_bytes 2 w (by omega) (by omega)
  have P1 : ∀ w, Calls Tryz.prog 145 #[.int .i64 3] w fun e w' => e = .returned (.int .i64 8) ∧ w' = w := fun w => r_power 3 w (by omega)
  have P2 : ∀ w, Calls Tryz.prog 145 #[.int .i64 8] w fun e w' => e = .returned (.int .i64 256) ∧ w' = w := fun w => r_power 8 w (by omega)
  have B2 : ∀ w, Calls Tryz.prog 147 #[.int .i64 8160] w fun e w' => e = .returned (.int .i64 13) ∧ w' = w := fun w => r_bits 8160 13 w (by omega) (by decide) (by decide) (by omega)
  have U1 : ∀ w, Calls Tryz.prog 146 #[.int .i64 13, .int .i64 8] w fun e w' => e = .returned (.int .i64 2) ∧ w' = w := fun w => r_up 13 8 w (by omega) (by omega) (by omega) (by omega)
  have b1 := Lib.hid B1; have p1 := Lib.hid P1; have p2 := Lib.hid P2; have b2 := Lib.hid B2; have u1 := Lib.hid U1; clear B1 P1 P2 B2 U1
  go_enter Tryz.func117, Tryz.ntmps117
  go_wp2_with fail
  refine (b1.out _).mono ?_
  rintro e w' ⟨rfl, rfl⟩
  go_wp2_with fail
  refine (p1.out _).mono ?_
  rintro e w' ⟨rfl, rfl⟩
  go_wp2_with fail
  refine (p2.out _).mono ?_
  rintro e w' ⟨rfl, rfl⟩
  go_wp2_with fail
  refine (b2.out _).mono ?_
  rintro e w' ⟨rfl, rfl⟩
  go_wp2_with fail
  refine (u1.out _).mono ?_
  rintro e w' ⟨rfl, rfl⟩
  go_wp2_with fail
  exact bodyPost_ret (v := .tuple #[.agg #[.int .u32 12, .bool true, .int .i64 32, .int .i64 8, .int .i64 34, .int .i64 0], .int .i64 0]) (by simp [results, Tryz.results117, go_sem]) rfl ⟨rfl, by repeat (first | exact Below.refl _ _ | refine Below.setCell ?_ (Nat.le_refl _) _ | refine Below.alloc ?_ (Nat.le_refl _) _)⟩
set_option maxHeartbeats 1000000 in
set_option maxRecDepth 100000 in
theorem r_ots13 (w : World) : Calls Tryz.prog 117 #[.int .u32 13] w fun e w' => e = .returned (.tuple #[.agg #[.int .u32 13, .bool true, .int .i64 24, .int .i64 1, .int .i64 200, .int .i64 8], .int .i64 0]) ∧ Below w.heap.size w w' := by
  have B1 : ∀ w, Calls Tryz.prog 144 #[.int .i64 3] w fun e w' => e = .returned (.int .i64 24) ∧ w' = w := fun w => r_bytes 3 w (by omega) (by omega)
  have P1 : ∀ w, Calls Tryz.prog 145 #[.int .i64 0] w fun e w' => e = .returned (.int .i64 1) ∧ w' = w := fun w => r_power 0 w (by omega)
  have P2 : ∀ w, Calls Tryz.prog 145 #[.int .i64 1] w fun e w' => e = .returned (.int .i64 2) ∧ w' = w := fun w => r_power 1 w (by omega)
  have B2 : ∀ w, Calls Tryz.prog 147 #[.int .i64 192] w fun e w' => e = .returned (.int .i64 8) ∧ w' = w := fun w => r_bits 192 8 w (by omega) (by decide) (by decide) (by omega)
  have U1 : ∀ w, Calls Tryz.prog 146 #[.int .i64 8, .int .i64 1] w fun e w' => e = .returned (.int .i64 8) ∧ w' = w := fun w => r_up 8 1 w (by omega) (by omega) (by omega) (by omega)
  have b1 := Lib.hid B1; have p1 := Lib.hid P1; have p2 := Lib.hid P2; have b2 := Lib.hid B2; have u1 := Lib.hid U1; clear B1 P1 P2 B2 U1
  go_enter Tryz.func117, Tryz.ntmps117
  go_wp2_with fail
  refine (b1.out _).mono ?_
  rintro e w' ⟨rfl, rfl⟩
  go_wp2_with fail
  refine (p1.out _).mono ?_
  rintro e w' ⟨rfl, rfl⟩
  go_wp2_with fail
  refine (p2.out _).mono ?_
  rintro e w' ⟨rfl, rfl⟩
  go_wp2_with fail
  refine (b2.out _).mono ?_
  rintro e w' ⟨rfl, rfl⟩
  go_wp2_with fail
  refine (u1.out _).mono ?_
  rintro e w' ⟨rfl, rfl⟩
  go_wp2_with fail
  exact bodyPost_ret (v := .tuple #[.agg #[.int .u32 13, .bool true, .int .i64 24, .int .i64 1, .int .i64 200, .int .i64 8], .int .i64 0]) (by simp [results, Tryz.results117, go_sem]) rfl ⟨rfl, by repeat (first | exact Below.refl _ _ | refine Below.setCell ?_ (Nat.le_refl _) _ | refine Below.alloc ?_ (Nat.le_refl _) _)⟩
set_option maxHeartbeats 1000000 in
set_option maxRecDepth 100000 in
theorem r_ots14 (w : World) : Calls Tryz.prog 117 #[.int .u32 14] w fun e w' => e = .returned (.tuple #[.agg #[.int .u32 14, .bool true, .int .i64 24, .int .i64 2, .int .i64 101, .int .i64 6], .int .i64 0]) ∧ Below w.heap.size w w' := by
  have B1 : ∀ w, Calls Tryz.prog 144 #[.int .i64 3] w fun e w' => e = .returned (.int .i64 24) ∧ w' = w := fun w => r_bytes 3 w (by omega) (by omega)
  have P1 : ∀ w, Calls Tryz.prog 145 #[.int .i64 1] w fun e w' => e = .returned (.int .i64 2) ∧ w' = w := fun w => r_power 1 w (by omega)
  have P2 : ∀ w, Calls Tryz.prog 145 #[.int .i64 2] w fun e w' => e = .returned (.int .i64 4) ∧ w' = w := fun w => r_power 2 w (by omega)
  have B2 : ∀ w, Calls Tryz.prog 147 #[.int .i64 288] w fun e w' => e = .returned (.int .i64 9) ∧ w' = w := fun w => r_bits 288 9 w (by omega) (by decide) (by decide) (by omega)
  have U1 : ∀ w, Calls Tryz.prog 146 #[.int .i64 9, .int .i64 2] w fun e w' => e = .returned (.int .i64 5) ∧ w' = w := fun w => r_up 9 2 w (by omega) (by omega) (by omega) (by omega)
  have b1 := Lib.hid B1; have p1 := Lib.hid P1; have p2 := Lib.hid P2; have b2 := Lib.hid B2; have u1 := Lib.hid U1; clear B1 P1 P2 B2 U1
  go_enter Tryz.func117, Tryz.ntmps117
  go_wp2_with fail
  refine (b1.out _).mono ?_
  rintro e w' ⟨rfl, rfl⟩
  go_wp2_with fail
  refine (p1.out _).mono ?_
  rintro e w' ⟨rfl, rfl⟩
  go_wp2_with fail
  refine (p2.out _).mono ?_
  rintro e w' ⟨rfl, rfl⟩
  go_wp2_with fail
  refine (b2.out _).mono ?_
  rintro e w' ⟨rfl, rfl⟩
  go_wp2_with fail
  refine (u1.out _).mono ?_
  rintro e w' ⟨rfl, rfl⟩
  go_wp2_with fail
  exact bodyPost_ret (v := .tuple #[.agg #[.int .u32 14, .bool true, .int .i64 24, .int .i64 2, .int .i64 101, .int .i64 6], .int .i64 0]) (by simp [results, Tryz.results117, go_sem]) rfl ⟨rfl, by repeat (first | exact Below.refl _ _ | refine Below.setCell ?_ (Nat.le_refl _) _ | refine Below.alloc ?_ (Nat.le_refl _) _)⟩
set_option maxHeartbeats 1000000 in
set_option maxRecDepth 100000 in
theorem r_ots15 (w : World) : Calls Tryz.prog 117 #[.int .u32 15] w fun e w' => e = .returned (.tuple #[.agg #[.int .u32 15, .bool true, .int .i64 24, .int .i64 4, .int .i64 51, .int .i64 4], .int .i64 0]) ∧ Below w.heap.size w w' := by
  have B1 : ∀ w, Calls Tryz.prog 144 #[.int .i64 3] w fun e w' => e = .returned (.int .i64 24) ∧ w' = w := fun w => r_bytes 3 w (by omega) (by omega)
  have P1 : ∀ w, Calls Tryz.prog 145 #[.int .i64 2] w fun e w' => e = .returned (.int .i64 4) ∧ w' = w := fun w => r_power 2 w (by omega)
  have P2 : ∀ w, Calls Tryz.prog 145 #[.int .i64 4] w fun e w' => e = .returned (.int .i64 16) ∧ w' = w := fun w => r_power 4 w (by omega)
  have B2 : ∀ w, Calls Tryz.prog 147 #[.int .i64 720] w fun e w' => e = .returned (.int .i64 10) ∧ w' = w := fun w => r_bits 720 10 w (by omega) (by decide) (by decide) (by omega)
  have U1 : ∀ w, Calls Tryz.prog 146 #[.int .i64 10, .int .i64 4] w fun e w' => e = .returned (.int .i64 3) ∧ w' = w := fun w => r_up 10 4 w (by omega) (by omega) (by omega) (by omega)
  have b1 := Lib.hid B1; have p1 := Lib.hid P1; have p2 := Lib.hid P2; have b2 := Lib.hid B2; have u1 := Lib.hid U1; clear B1 P1 P2 B2 U1
  go_enter Tryz.func117, Tryz.ntmps117
  go_wp2_with fail
  refine (b1.out _).mono ?_
  rintro e w' ⟨rfl, rfl⟩
  go_wp2_with fail
  refine (p1.out _).mono ?_
  rintro e w' ⟨rfl, rfl⟩
  go_wp2_with fail
  refine (p2.out _).mono ?_
  rintro e w' ⟨rfl, rfl⟩
  go_wp2_with fail
  refine (b2.out _).mono ?_
  rintro e w' ⟨rfl, rfl⟩
  go_wp2_with fail
  refine (u1.out _).mono ?_
  rintro e w' ⟨rfl, rfl⟩
  go_wp2_with fail
  exact bodyPost_ret (v := .tuple #[.agg #[.int .u32 15, .bool true, .int .i64 24, .int .i64 4, .int .i64 51, .int .i64 4], .int .i64 0]) (by simp [results, Tryz.results117, go_sem]) rfl ⟨rfl, by repeat (first | exact Below.refl _ _ | refine Below.setCell ?_ (Nat.le_refl _) _ | refine Below.alloc ?_ (Nat.le_refl _) _)⟩
set_option maxHeartbeats 1000000 in
set_option maxRecDepth 100000 in
theorem r_ots16 (w : World) : Calls Tryz.prog 117 #[.int .u32 16] w fun e w' => e = .returned (.tuple #[.agg #[.int .u32 16, .bool true, .int .i64 24, .int .i64 8, .int .i64 26, .int .i64 0], .int .i64 0]) ∧ Below w.heap.size w w' := by
  have B1 : ∀ w, Calls Tryz.prog 144 #[.int .i64 3] w fun e w' => e = .returned (.int .i64 24) ∧ w' = w := fun w => r_bytes 3 w (by omega) (by omega)
  have P1 : ∀ w, Calls Tryz.prog 145 #[.int .i64 3] w fun e w' => e = .returned (.int .i64 8) ∧ w' = w := fun w => r_power 3 w (by omega)
  have P2 : ∀ w, Calls Tryz.prog 145 #[.int .i64 8] w fun e w' => e = .returned (.int .i64 256) ∧ w' = w := fun w => r_power 8 w (by omega)
  have B2 : ∀ w, Calls Tryz.prog 147 #[.int .i64 6120] w fun e w' => e = .returned (.int .i64 13) ∧ w' = w := fun w => r_bits 6120 13 w (by omega) (by decide) (by decide) (by omega)
  have U1 : ∀ w, Calls Tryz.prog 146 #[.int .i64 13, .int .i64 8] w fun e w' => e = .returned (.int .i64 2) ∧ w' = w := fun w => r_up 13 8 w (by omega) (by omega) (by omega) (by omega)
  have b1 := Lib.hid B1; have p1 := Lib.hid P1; have p2 := Lib.hid P2; have b2 := Lib.hid B2; have u1 := Lib.hid U1; clear B1 P1 P2 B2 U1
  go_enter Tryz.func117, Tryz.ntmps117
  go_wp2_with fail
  refine (b1.out _).mono ?_
  rintro e w' ⟨rfl, rfl⟩
  go_wp2_with fail
  refine (p1.out _).mono ?_
  rintro e w' ⟨rfl, rfl⟩
  go_wp2_with fail
  refine (p2.out _).mono ?_
  rintro e w' ⟨rfl, rfl⟩
  go_wp2_with fail
  refine (b2.out _).mono ?_
  rintro e w' ⟨rfl, rfl⟩
  go_wp2_with fail
  refine (u1.out _).mono ?_
  rintro e w' ⟨rfl, rfl⟩
  go_wp2_with fail
  exact bodyPost_ret (v := .tuple #[.agg #[.int .u32 16, .bool true, .int .i64 24, .int .i64 8, .int .i64 26, .int .i64 0], .int .i64 0]) (by simp [results, Tryz.results117, go_sem]) rfl ⟨rfl, by repeat (first | exact Below.refl _ _ | refine Below.setCell ?_ (Nat.le_refl _) _ | refine Below.alloc ?_ (Nat.le_refl _) _)⟩
set_option maxHeartbeats 1000000 in
set_option maxRecDepth 100000 in
theorem r_ots0 (w : World) : Calls Tryz.prog 117 #[.int .u32 0] w fun e w' => e = .returned (.tuple #[OtsR.zero.enc, .int .i64 60]) ∧ Below w.heap.size w w' := by
  go_enter Tryz.func117, Tryz.ntmps117
  go_wp2
  exact bodyPost_ret (v := .tuple #[OtsR.zero.enc, .int .i64 60]) (by simp [results, Tryz.results117, go_sem, OtsR.zero, OtsR.enc]) rfl ⟨rfl, by repeat (first | exact Below.refl _ _ | refine Below.setCell ?_ (Nat.le_refl _) _ | refine Below.alloc ?_ (Nat.le_refl _) _)⟩
set_option maxHeartbeats 1000000 in
set_option maxRecDepth 100000 in
theorem r_otsBig (a : Int) (h1 : 16 < a) (w : World) : Calls Tryz.prog 117 #[.int .u32 a] w fun e w' => e = .returned (.tuple #[OtsR.zero.enc, .int .i64 60]) ∧ Below w.heap.size w w' := by
  have h0 : 1 ≤ a := by omega
  go_enter Tryz.func117, Tryz.ntmps117
  go_wp2
  exact bodyPost_ret (v := .tuple #[OtsR.zero.enc, .int .i64 60]) (by simp [results, Tryz.results117, go_sem, OtsR.zero, OtsR.enc]) rfl ⟨rfl, by repeat (first | exact Below.refl _ _ | refine Below.setCell ?_ (Nat.le_refl _) _ | refine Below.alloc ?_ (Nat.le_refl _) _)⟩
theorem r_Ots (c : Int) (w : World) (h0 : 0 ≤ c) (g1 : c < 4294967296) :
    Calls Tryz.prog 117 #[.int .u32 c] w fun e w' => e = .returned (.tuple #[(ots c).1.enc, .int .i64 (ots c).2]) ∧ Below w.heap.size w w' := by
  by_cases hb : 16 < c
  · rw [show ots c = (OtsR.zero, 60) by unfold ots; rw [Spec.otsTab_big _ (by omega)]]
    exact r_otsBig c hb w
  · obtain rfl | rfl | rfl | rfl | rfl | rfl | rfl | rfl | rfl | rfl | rfl | rfl | rfl | rfl | rfl | rfl | rfl : c = 0 ∨ c = 1 ∨ c = 2 ∨ c = 3 ∨ c = 4 ∨ c = 5 ∨ c = 6 ∨ c = 7 ∨ c = 8 ∨ c = 9 ∨ c = 10 ∨ c = 11 ∨ c = 12 ∨ c = 13 ∨ c = 14 ∨ c = 15 ∨ c = 16 := by omega
    · exact r_ots0 w
    · exact r_ots1 w
    · exact r_ots2 w
    · exact r_ots3 w
    · exact r_ots4 w
    · exact r_ots5 w
    · exact r_ots6 w
    · exact r_ots7 w
    · exact r_ots8 w
    · exact r_ots9 w
    · exact r_ots10 w
    · exact r_ots11 w
    · exact r_ots12 w
    · exact r_ots13 w
    · exact r_ots14 w
    · exact r_ots15 w
    · exact r_ots16 w
set_option maxHeartbeats 1000000 in
set_option maxRecDepth 100000 in
theorem r_own (a0 a1 : Int) (w : World) (g0 : 0 ≤ a0) (g1 : a0 < 4294967296) (g2 : 0 ≤ a1) (g3 : a1 + 64 < 4294967296) :
    Calls Tryz.prog 143 #[.int .u32 a0, .int .u32 a1] w fun e w' => e = .returned (.tuple #[.int .i64 (ownR a0 a1).1, .int .i64 (ownR a0 a1).2.1, .bool (ownR a0 a1).2.2]) ∧ w' = w := by
  by_cases h1 : a0 < a1
  · have e : ownR a0 a1 = (0, 0, false) := by unfold ownR; rw [if_pos h1]
    rw [e]
    clear e
    go_enter Tryz.func143, Tryz.ntmps143
    go_wp2
    go_ret3
    exact ⟨rfl, rfl⟩
  · by_cases h2 : a1 + 64 ≤ a0
    · have e : ownR a0 a1 = (0, 0, false) := by unfold ownR; rw [if_neg h1, if_pos h2]
      rw [e]
      have h3 : a1 + 63 < a0 := by omega
      clear e h2
      go_enter Tryz.func143, Tryz.ntmps143
      go_wp2
      go_ret3
      exact ⟨rfl, rfl⟩
    · have e : ownR a0 a1 = ((a0 - a1) / 16, (a0 - a1) % 16, decide (1 ≤ (a0 - a1) % 16) && decide ((a0 - a1) % 16 ≤ 4)) := by unfold ownR; rw [if_neg h1, if_neg h2]
      rw [e]
      have d0 : 0 ≤ a0 - a1 := by omega
      have d1 : a0 - a1 < 64 := by omega
      have d2 : ¬ a1 + 63 < a0 := by omega
      clear e
      by_cases h3 : 1 ≤ (a0 - a1) % 16
      · have h3b : decide (1 ≤ (a0 - a1) % 16) = true := decide_eq_true h3
        rw [h3b, Bool.true_and]
        go_enter Tryz.func143, Tryz.ntmps143
        go_wp2
        go_ret3
        exact ⟨rfl, rfl⟩
      · have h3b : decide (1 ≤ (a0 - a1) % 16) = false := decide_eq_false h3
        rw [h3b, Bool.false_and]
        go_enter Tryz.func143, Tryz.ntmps143
        go_wp2
        go_ret3
        exact ⟨rfl, rfl⟩
set_option maxHeartbeats 1000000 in
set_option maxRecDepth 100000 in
theorem r_Lms (c : Int) (w : World) (g0 : 0 ≤ c) (g1 : c < 4294967296) :
    Calls Tryz.prog 118 #[.int .u32 c] w fun e w' => e = .returned (.tuple #[(lms c).1.enc, .int .i64 (lms c).2]) ∧ Below w.heap.size w w' := by
  by_cases h1 : 5 ≤ c ∧ c ≤ 24
  · rw [lms_eq (show lmsFam c = some ((c - 5) / 5, 5 * (c % 5 + 1)) by unfold lmsFam; rw [if_pos h1])]
    obtain ⟨h1, h2⟩ := h1
    have Co := fun w => r_own c 4026531840 w g0 g1 (by omega) (by omega)
    have Ch := fun w => r_bytes ((c - 5) / 5) w (by omega) (by omega)
    have co := Lib.hid Co; have ch := Lib.hid Ch; clear Co Ch
    go_enter Tryz.func118, Tryz.ntmps118
    go_wp2_with (first
      | (go_at_call 143; refine (co.out _).mono ?_; rintro e w' ⟨rfl, rfl⟩)
      | (go_at_call 144; refine (ch.out _).mono ?_; rintro e w' ⟨rfl, rfl⟩))
    exact bodyPost_ret (v := .tuple #[.agg #[.int .u32 c, .bool (fShake ((c - 5) / 5)), .int .i64 (fBytes ((c - 5) / 5)), .int .i64 (5 * (c % 5 + 1))], .int .i64 0]) (by simp [results, Tryz.results118, go_sem, fShake]) rfl ⟨rfl, by repeat (first | exact Below.refl _ _ | refine Below.setCell ?_ (Nat.le_refl _) _ | refine Below.alloc ?_ (Nat.le_refl _) _)⟩
  · by_cases hb : 4026531840 ≤ c ∧ c < 4026531840 + 64 ∧ 1 ≤ (c - 4026531840) % 16 ∧ (c - 4026531840) % 16 ≤ 4
    · have hy := ownR_yes hb
      rw [lms_eq (show lmsFam c = some ((c - 4026531840) / 16, (c - 4026531840) % 16) by unfold lmsFam; rw [if_neg h1]; exact hy.2)]
      have Co := fun w => r_own c 4026531840 w g0 g1 (by omega) (by omega)
      rw [hy.1] at Co
      have Ch := fun w => r_bytes ((c - 4026531840) / 16) w (by omega) (by omega)
      have co := Lib.hid Co; have ch := Lib.hid Ch; clear Co Ch hy
      have g2 : 24 < c := by omega
      have g3 : 5 ≤ c := by omega
      generalize (c - 4026531840) / 16 = f at *
      generalize (c - 4026531840) % 16 = m at *
      clear h1 hb
      go_enter Tryz.func118, Tryz.ntmps118
      go_wp2_with (first
        | (go_at_call 143; refine (co.out _).mono ?_; rintro e w' ⟨rfl, rfl⟩)
        | (go_at_call 144; refine (ch.out _).mono ?_; rintro e w' ⟨rfl, rfl⟩))
      exact bodyPost_ret (v := .tuple #[.agg #[.int .u32 c, .bool (fShake f), .int .i64 (fBytes f), .int .i64 m], .int .i64 0]) (by simp [results, Tryz.results118, go_sem, fShake]) rfl ⟨rfl, by repeat (first | exact Below.refl _ _ | refine Below.setCell ?_ (Nat.le_refl _) _ | refine Below.alloc ?_ (Nat.le_refl _) _)⟩
    · obtain ⟨f, m, hn1, hn2⟩ := ownR_no hb
      rw [lms_no (show lmsFam c = none by unfold lmsFam; rw [if_neg h1]; exact hn2)]
      have Co := fun w => r_own c 4026531840 w g0 g1 (by omega) (by omega)
      rw [hn1] at Co
      have co := Lib.hid Co; clear Co hn1 hn2 hb
      by_cases h5 : 5 ≤ c
      · have h6 : 24 < c := by omega
        clear h1
        go_enter Tryz.func118, Tryz.ntmps118
        go_wp2_with (first
          | (go_at_call 143; refine (co.out _).mono ?_; rintro e w' ⟨rfl, rfl⟩))
        exact bodyPost_ret (v := .tuple #[.agg #[.int .u32 0, .bool false, .int .i64 0, .int .i64 0], .int .i64 60]) (by simp [results, Tryz.results118, go_sem, fShake]) rfl ⟨rfl, by repeat (first | exact Below.refl _ _ | refine Below.setCell ?_ (Nat.le_refl _) _ | refine Below.alloc ?_ (Nat.le_refl _) _)⟩
      · clear h1
        go_enter Tryz.func118, Tryz.ntmps118
        go_wp2_with (first
          | (go_at_call 143; refine (co.out _).mono ?_; rintro e w' ⟨rfl, rfl⟩))
        exact bodyPost_ret (v := .tuple #[.agg #[.int .u32 0, .bool false, .int .i64 0, .int .i64 0], .int .i64 60]) (by simp [results, Tryz.results118, go_sem, fShake]) rfl ⟨rfl, by repeat (first | exact Below.refl _ _ | refine Below.setCell ?_ (Nat.le_refl _) _ | refine Below.alloc ?_ (Nat.le_refl _) _)⟩
set_option maxHeartbeats 1000000 in
set_option maxRecDepth 100000 in
theorem r_xms1 (w : World) : Calls Tryz.prog 114 #[.int .u32 1] w fun e w' => e = .returned (.tuple #[.agg #[.int .u32 1, .bool false, .int .i64 32, .int .i64 10, .int .i64 67], .int .i64 0]) ∧ Below w.heap.size w w' := by
  have Co : ∀ w, Calls Tryz.prog 143 #[.int .u32 1, .int .u32 4043309056] w fun e w' => e = .returned (.tuple #[.int .i64 0, .int .i64 0, .bool false]) ∧ w' = w := fun w => r_own 1 4043309056 w (by omega) (by omega) (by omega) (by omega)
  have Ch : ∀ w, Calls Tryz.prog 144 #[.int .i64 0] w fun e w' => e = .returned (.int .i64 32) ∧ w' = w := fun w => r_bytes 0 w (by omega) (by omega)
  have co := Lib.hid Co; have ch := Lib.hid Ch; clear Co Ch
  go_enter Tryz.func114, Tryz.ntmps114
  go_wp2_with (first | (go_at_call 143; refine (co.out _).mono ?_; rintro e w' ⟨rfl, rfl⟩) | (go_at_call 144; refine (ch.out _).mono ?_; rintro e w' ⟨rfl, rfl⟩))
  go_quiet (fail)
  go_wp2_with (first | (go_at_call 143; refine (co.out _).mono ?_; rintro e w' ⟨rfl, rfl⟩) | (go_at_call 144; refine (ch.out _).mono ?_; rintro e w' ⟨rfl, rfl⟩))
  exact bodyPost_ret (v := .tuple #[.agg #[.int .u32 1, .bool false, .int .i64 32, .int .i64 10, .int .i64 67], .int .i64 0]) (by simp [results, Tryz.results114, go_sem]) rfl ⟨rfl, by repeat (first | (with_reducible exact Below.refl _ _) | (with_reducible refine pw_below_drewN ?_ _) | (with_reducible refine Below.setCell ?_ (by simp) _) | (with_reducible refine Below.alloc ?_ (by simp) _))⟩
set_option maxHeartbeats 1000000 in
set_option maxRecDepth 100000 in
theorem r_xms2 (w : World) : Calls Tryz.prog 114 #[.int .u32 2] w fun e w' => e = .returned (.tuple #[.agg #[.int .u32 2, .bool false, .int .i64 32, .int .i64 16, .int .i64 67], .int .i64 0]) ∧ Below w.heap.size w w' := by
  have Co : ∀ w, Calls Tryz.prog 143 #[.int .u32 2, .int .u32 4043309056] w fun e w' => e = .returned (.tuple #[.int .i64 0, .int .i64 0, .bool false]) ∧ w' = w := fun w => r_own 2 4043309056 w (by omega) (by omega) (by omega) (by omega)
  have Ch : ∀ w, Calls Tryz.prog 144 #[.int .i64 0] w fun e w' => e = .returned (.int .i64 32) ∧ w' = w := fun w => r_bytes 0 w (by omega) (by omega)
  have co := Lib.hid Co; have ch := Lib.hid Ch; clear Co Ch
  go_enter Tryz.func114, Tryz.ntmps114
  go_wp2_with (first | (go_at_call 143; refine (co.out _).mono ?_; rintro e w' ⟨rfl, rfl⟩) | (go_at_call 144; refine (ch.out _).mono ?_; rintro e w' ⟨rfl, rfl⟩))
  go_quiet (fail)
  go_wp2_with (first | (go_at_call 143; refine (co.out _).mono ?_; rintro e w' ⟨rfl, rfl⟩) | (go_at_call 144; refine (ch.out _).mono ?_; rintro e w' ⟨rfl, rfl⟩))
  exact bodyPost_ret (v := .tuple #[.agg #[.int .u32 2, .bool false, .int .i64 32, .int .i64 16, .int .i64 67], .int .i64 0]) (by simp [results, Tryz.results114, go_sem]) rfl ⟨rfl, by repeat (first | (with_reducible exact Below.refl _ _) | (with_reducible refine pw_below_drewN ?_ _) | (with_reducible refine Below.setCell ?_ (by simp) _) | (with_reducible refine Below.alloc ?_ (by simp) _))⟩
set_option maxHeartbeats 1000000 in
set_option maxRecDepth 100000 in
theorem r_xms3 (w : World) : Calls Tryz.prog 114 #[.int .u32 3] w fun e w' => e = .returned (.tuple #[.agg #[.int .u32 3, .bool false, .int .i64 32, .int .i64 20, .int .i64 67], .int .i64 0]) ∧ Below w.heap.size w w' := by
  have Co : ∀ w, Calls Tryz.prog 143 #[.int .u32 3, .int .u32 4043309056] w fun e w' => e = .returned (.tuple #[.int .i64 0, .int .i64 0, .bool false]) ∧ w' = w := fun w => r_own 3 4043309056 w (by omega) (by omega) (by omega) (by omega)
  have Ch : ∀ w, Calls Tryz.prog 144 #[.int .i64 0] w fun e w' => e = .returned (.int .i64 32) ∧ w' = w := fun w => r_bytes 0 w (by omega) (by omega)
  have co := Lib.hid Co; have ch := Lib.hid Ch; clear Co Ch
  go_enter Tryz.func114, Tryz.ntmps114
  go_wp2_with (first | (go_at_call 143; refine (co.out _).mono ?_; rintro e w' ⟨rfl, rfl⟩) | (go_at_call 144; refine (ch.out _).mono ?_; rintro e w' ⟨rfl, rfl⟩))
  go_quiet (fail)
  go_wp2_with (first | (go_at_call 143; refine (co.out _).mono ?_; rintro e w' ⟨rfl, rfl⟩) | (go_at_call 144; refine (ch.out _).mono ?_; rintro e w' ⟨rfl, rfl⟩))
  exact bodyPost_ret (v := .tuple #[.agg #[.int .u32 3, .bool false, .int .i64 32, .int .i64 20, .int .i64 67], .int .i64 0]) (by simp [results, Tryz.results114, go_sem]) rfl ⟨rfl, by repeat (first | (with_reducible exact Below.refl _ _) | (with_reducible refine pw_below_drewN ?_ _) | (with_reducible refine Below.setCell ?_ (by simp) _) | (with_reducible refine Below.alloc ?_ (by simp) _))⟩
set_option maxHeartbeats 1000000 in
set_option maxRecDepth 100000 in
theorem r_xms13 (w : World) : Calls Tryz.prog 114 #[.int .u32 13] w fun e w' => e = .returned (.tuple #[.agg #[.int .u32 13, .bool false, .int .i64 24, .int .i64 10, .int .i64 51], .int .i64 0]) ∧ Below w.heap.size w w' := by
  have Co : ∀ w, Calls Tryz.prog 143 #[.int .u32 13, .int .u32 4043309056] w fun e w' => e = .returned (.tuple #[.int .i64 0, .int .i64 0, .bool false]) ∧ w' = w := fun w => r_own 13 4043309056 w (by omega) (by omega) (by omega) (by omega)
  have Ch : ∀ w, Calls Tryz.prog 144 #[.int .i64 1] w fun e w' => e = .returned (.int .i64 24) ∧ w' = w := fun w => r_bytes 1 w (by omega) (by omega)
  have co := Lib.hid Co; have ch := Lib.hid Ch; clear Co Ch
  go_enter Tryz.func114, Tryz.ntmps114
  go_wp2_with (first | (go_at_call 143; refine (co.out _).mono ?_; rintro e w' ⟨rfl, rfl⟩) | (go_at_call 144; refine (ch.out _).mono ?_; rintro e w' ⟨rfl, rfl⟩))
  go_quiet (fail)
  go_wp2_with (first | (go_at_call 143; refine (co.out _).mono ?_; rintro e w' ⟨rfl, rfl⟩) | (go_at_call 144; refine (ch.out _).mono ?_; rintro e w' ⟨rfl, rfl⟩))
  exact bodyPost_ret (v := .tuple #[.agg #[.int .u32 13, .bool false, .int .i64 24, .int .i64 10, .int .i64 51], .int .i64 0]) (by simp [results, Tryz.results114, go_sem]) rfl ⟨rfl, by repeat (first | (with_reducible exact Below.refl _ _) | (with_reducible refine pw_below_drewN ?_ _) | (with_reducible refine Below.setCell ?_ (by simp) _) | (with_reducible refine Below.alloc ?_ (by simp) _))⟩
set_option maxHeartbeats 1000000 in
set_option maxRecDepth 100000 in
theorem r_xms14 (w : World) : Calls Tryz.prog 114 #[.int .u32 14] w fun e w' => e = .returned (.tuple #[.agg #[.int .u32 14, .bool false, .int .i64 24, .int .i64 16, .int .i64 51], .int .i64 0]) ∧ Below w.heap.size w w' := by
  have Co : ∀ w, Calls Tryz.prog 143 #[.int .u32 14, .int .u32 4043309056] w fun e w' => e = .returned (.tuple #[.int .i64 0, .int .i64 0, .bool false]) ∧ w' = w := fun w => r_own 14 4043309056 w (by omega) (by omega) (by omega) (by omega)
  have Ch : ∀ w, Calls Tryz.prog 144 #[.int .i64 1] w fun e w' => e = .returned (.int .i64 24) ∧ w' = w := fun w => r_bytes 1 w (by omega) (by omega)
  have co := Lib.hid Co; have ch := Lib.hid Ch; clear Co Ch
  go_enter Tryz.func114, Tryz.ntmps114
  go_wp2_with (first | (go_at_call 143; refine (co.out _).mono ?_; rintro e w' ⟨rfl, rfl⟩) | (go_at_call 144; refine (ch.out _).mono ?_; rintro e w' ⟨rfl, rfl⟩))
  go_quiet (fail)
  go_wp2_with (first | (go_at_call 143; refine (co.out _).mono ?_; rintro e w' ⟨rfl, rfl⟩) | (go_at_call 144; refine (ch.out _).mono ?_; rintro e w' ⟨rfl, rfl⟩))
  exact bodyPost_ret (v := .tuple #[.agg #[.int .u32 14, .bool false, .int .i64 24, .int .i64 16, .int .i64 51], .int .i64 0]) (by simp [results, Tryz.results114, go_sem]) rfl ⟨rfl, by repeat (first | (with_reducible exact Below.refl _ _) | (with_reducible refine pw_below_drewN ?_ _) | (with_reducible refine Below.setCell ?_ (by simp) _) | (with_reducible refine Below.alloc ?_ (by simp) _))⟩
set_option maxHeartbeats 1000000 in
set_option maxRecDepth 100000 in
theorem r_xms15 (w : World) : Calls Tryz.prog 114 #[.int .u32 15] w fun e w' => e = .returned (.tuple #[.agg #[.int .u32 15, .bool false, .int .i64 24, .int .i64 20, .int .i64 51], .int .i64 0]) ∧ Below w.heap.size w w' := by
  have Co : ∀ w, Calls Tryz.prog 143 #[.int .u32 15, .int .u32 4043309056] w fun e w' => e = .returned (.tuple #[.int .i64 0, .int .i64 0, .bool false]) ∧ w' = w := fun w => r_own 15 4043309056 w (by omega) (by omega) (by omega) (by omega)
  have Ch : ∀ w, Calls Tryz.prog 144 #[.int .i64 1] w fun e w' => e = .returned (.int .i64 24) ∧ w' = w := fun w => r_bytes 1 w (by omega) (by omega)
  have co := Lib.hid Co; have ch := Lib.hid Ch; clear Co Ch
  go_enter Tryz.func114, Tryz.ntmps114
  go_wp2_with (first | (go_at_call 143; refine (co.out _).mono ?_; rintro e w' ⟨rfl, rfl⟩) | (go_at_call 144; refine (ch.out _).mono ?_; rintro e w' ⟨rfl, rfl⟩))
  go_quiet (fail)
  go_wp2_with (first | (go_at_call 143; refine (co.out _).mono ?_; rintro e w' ⟨rfl, rfl⟩) | (go_at_call 144; refine (ch.out _).mono ?_; rintro e w' ⟨rfl, rfl⟩))
  exact bodyPost_ret (v := .tuple #[.agg #[.int .u32 15, .bool false, .int .i64 24, .int .i64 20, .int .i64 51], .int .i64 0]) (by simp [results, Tryz.results114, go_sem]) rfl ⟨rfl, by repeat (first | (with_reducible exact Below.refl _ _) | (with_reducible refine pw_below_drewN ?_ _) | (with_reducible refine Below.setCell ?_ (by simp) _) | (with_reducible refine Below.alloc ?_ (by simp) _))⟩
set_option maxHeartbeats 1000000 in
set_option maxRecDepth 100000 in
theorem r_xms16 (w : World) : Calls Tryz.prog 114 #[.int .u32 16] w fun e w' => e = .returned (.tuple #[.agg #[.int .u32 16, .bool true, .int .i64 32, .int .i64 10, .int .i64 67], .int .i64 0]) ∧ Below w.heap.size w w' := by
  have Co : ∀ w, Calls Tryz.prog 143 #[.int .u32 16, .int .u32 4043309056] w fun e w' => e = .returned (.tuple #[.int .i64 0, .int .i64 0, .bool false]) ∧ w' = w := fun w => r_own 16 4043309056 w (by omega) (by omega) (by omega) (by omega)
  have Ch : ∀ w, Calls Tryz.prog 144 #[.int .i64 2] w fun e w' => e = .returned (.int .i64 32) ∧ w' = w := fun w => r_bytes 2 w (by omega) (by omega)
  have co := Lib.hid Co; have ch := Lib.hid Ch; clear Co Ch
  go_enter Tryz.func114, Tryz.ntmps114
  go_wp2_with (first | (go_at_call 143; refine (co.out _).mono ?_; rintro e w' ⟨rfl, rfl⟩) | (go_at_call 144; refine (ch.out _).mono ?_; rintro e w' ⟨rfl, rfl⟩))
  go_quiet (fail)
  go_wp2_with (first | (go_at_call 143; refine (co.out _).mono ?_; rintro e w' ⟨rfl, rfl⟩) | (go_at_call 144; refine (ch.out _).mono ?_; rintro e w' ⟨rfl, rfl⟩))
  exact bodyPost_ret (v := .tuple #[.agg #[.int .u32 16, .bool true, .int .i64 32, .int .i64 10, .int .i64 67], .int .i64 0]) (by simp [results, Tryz.results114, go_sem]) rfl ⟨rfl, by repeat (first | (with_reducible exact Below.refl _ _) | (with_reducible refine pw_below_drewN ?_ _) | (with_reducible refine Below.setCell ?_ (by simp) _) | (with_reducible refine Below.alloc ?_ (by simp) _))⟩
set_option maxHeartbeats 1000000 in
set_option maxRecDepth 100000 in
theorem r_xms17 (w : World) : Calls Tryz.prog 114 #[.int .u32 17] w fun e w' => e = .returned (.tuple #[.agg #[.int .u32 17, .bool true, .int .i64 32, .int .i64 16, .int .i64 67], .int .i64 0]) ∧ Below w.heap.size w w' := by
  have Co : ∀ w, Calls Tryz.prog 143 #[.int .u32 17, .int .u32 4043309056] w fun e w' => e = .returned (.tuple #[.int .i64 0, .int .i64 0, .bool false]) ∧ w' = w := fun w => r_own 17 4043309056 w (by omega) (by omega) (by omega) (by omega)
  have Ch : ∀ w, Calls Tryz.prog 144 #[.int .i64 2] w fun e w' => e = .returned (.int .i64 32) ∧ w' = w := fun w => r_bytes 2 w (by omega) (by omega)
  have co := Lib.hid Co; have ch := Lib.hid Ch; clear Co Ch
  go_enter Tryz.func114, Tryz.ntmps114
  go_wp2_with (first | (go_at_call 143; refine (co.out _).mono ?_; rintro e w' ⟨rfl, rfl⟩) | (go_at_call 144; refine (ch.out _).mono ?_; rintro e w' ⟨rfl, rfl⟩))
  go_quiet (fail)
  go_wp2_with (first | (go_at_call 143; refine (co.out _).mono ?_; rintro e w' ⟨rfl, rfl⟩) | (go_at_call 144; refine (ch.out _).mono ?_; rintro e w' ⟨rfl, rfl⟩))
  exact bodyPost_ret (v := .tuple #[.agg #[.int .u32 17, .bool true, .int .i64 32, .int .i64 16, .int .i64 67], .int .i64 0]) (by simp [results, Tryz.results114, go_sem]) rfl ⟨rfl, by repeat (first | (with_reducible exact Below.refl _ _) | (with_reducible refine pw_below_drewN ?_ _) | (with_reducible refine Below.setCell ?_ (by simp) _) | (with_reducible refine Below.alloc ?_ (by simp) _))⟩
set_option maxHeartbeats 1000000 in
set_option maxRecDepth 100000 in
theorem r_xms18 (w : World) : Calls Tryz.prog 114 #[.int .u32 18] w fun e w' => e = .returned (.tuple #[.agg #[.int .u32 18, .bool true, .int .i64 32, .int .i64 20, .int .i64 67], .int .i64 0]) ∧ Below w.heap.size w w' := by
  have Co : ∀ w, Calls Tryz.prog 143 #[.int .u32 18, .int .u32 4043309056] w fun e w' => e = .returned (.tuple #[.int .i64 0, .int .i64 0, .bool false]) ∧ w' = w := fun w => r_own 18 4043309056 w (by omega) (by omega) (by omega) (by omega)
  have Ch : ∀ w, Calls Tryz.prog 144 #[.int .i64 2] w fun e w' => e = .returned (.int .i64 32) ∧ w' = w := fun w => r_bytes 2 w (by omega) (by omega)
  have co := Lib.hid Co; have ch := Lib.hid Ch; clear Co Ch
  go_enter Tryz.func114, Tryz.ntmps114
  go_wp2_with (first | (go_at_call 143; refine (co.out _).mono ?_; rintro e w' ⟨rfl, rfl⟩) | (go_at_call 144; refine (ch.out _).mono ?_; rintro e w' ⟨rfl, rfl⟩))
  go_quiet (fail)
  go_wp2_with (first | (go_at_call 143; refine (co.out _).mono ?_; rintro e w' ⟨rfl, rfl⟩) | (go_at_call 144; refine (ch.out _).mono ?_; rintro e w' ⟨rfl, rfl⟩))
  exact bodyPost_ret (v := .tuple #[.agg #[.int .u32 18, .bool true, .int .i64 32, .int .i64 20, .int .i64 67], .int .i64 0]) (by simp [results, Tryz.results114, go_sem]) rfl ⟨rfl, by repeat (first | (with_reducible exact Below.refl _ _) | (with_reducible refine pw_below_drewN ?_ _) | (with_reducible refine Below.setCell ?_ (by simp) _) | (with_reducible refine Below.alloc ?_ (by simp) _))⟩
set_option maxHeartbeats 1000000 in
set_option maxRecDepth 100000 in
theorem r_xms19 (w : World) : Calls Tryz.prog 114 #[.int .u32 19] w fun e w' => e = .returned (.tuple #[.agg #[.int .u32 19, .bool true, .int .i64 24, .int .i64 10, .int .i64 51], .int .i64 0]) ∧ Below w.heap.size w w' := by
  have Co : ∀ w, Calls Tryz.prog 143 #[.int .u32 19, .int .u32 4043309056] w fun e w' => e = .returned (.tuple #[.int .i64 0, .int .i64 0, .bool false]) ∧ w' = w := fun w => r_own 19 4043309056 w (by omega) (by omega) (by omega) (by omega)
  have Ch : ∀ w, Calls Tryz.prog 144 #[.int .i64 3] w fun e w' => e = .returned (.int .i64 24) ∧ w' = w := fun w => r_bytes 3 w (by omega) (by omega)
  have co := Lib.hid Co; have ch := Lib.hid Ch; clear Co Ch
  go_enter Tryz.func114, Tryz.ntmps114
  go_wp2_with (first | (go_at_call 143; refine (co.out _).mono ?_; rintro e w' ⟨rfl, rfl⟩) | (go_at_call 144; refine (ch.out _).mono ?_; rintro e w' ⟨rfl, rfl⟩))
  go_quiet (fail)
  go_wp2_with (first | (go_at_call 143; refine (co.out _).mono ?_; rintro e w' ⟨rfl, rfl⟩) | (go_at_call 144; refine (ch.out _).mono ?_; rintro e w' ⟨rfl, rfl⟩))
  exact bodyPost_ret (v := .tuple #[.agg #[.int .u32 19, .bool true, .int .i64 24, .int .i64 10, .int .i64 51], .int .i64 0]) (by simp [results, Tryz.results114, go_sem]) rfl ⟨rfl, by repeat (first | (with_reducible exact Below.refl _ _) | (with_reducible refine pw_below_drewN ?_ _) | (with_reducible refine Below.setCell ?_ (by simp) _) | (with_reducible refine Below.alloc ?_ (by simp) _))⟩
set_option maxHeartbeats 1000000 in
set_option maxRecDepth 100000 in
theorem r_xms20 (w : World) : Calls Tryz.prog 114 #[.int .u32 20] w fun e w' => e = .returned (.tuple #[.agg #[.int .u32 20, .bool true, .int .i64 24, .int .i64 16, .int .i64 51], .int .i64 0]) ∧ Below w.heap.size w w' := by
  have Co : ∀ w, Calls Tryz.prog 143 #[.int .u32 20, .int .u32 4043309056] w fun e w' => e = .returned (.tuple #[.int .i64 0, .int .i64 0, .bool false]) ∧ w' = w := fun w => r_own 20 4043309056 w (by omega) (by omega) (by omega) (by omega)
  have Ch : ∀ w, Calls Tryz.prog 144 #[.int .i64 3] w fun e w' => e = .returned (.int .i64 24) ∧ w' = w := fun w => r_bytes 3 w (by omega) (by omega)
  have co := Lib.hid Co; have ch := Lib.hid Ch; clear Co Ch
  go_enter Tryz.func114, Tryz.ntmps114
  go_wp2_with (first | (go_at_call 143; refine (co.out _).mono ?_; rintro e w' ⟨rfl, rfl⟩) | (go_at_call 144; refine (ch.out _).mono ?_; rintro e w' ⟨rfl, rfl⟩))
  go_quiet (fail)
  go_wp2_with (first | (go_at_call 143; refine (co.out _).mono ?_; rintro e w' ⟨rfl, rfl⟩) | (go_at_call 144; refine (ch.out _).mono ?_; rintro e w' ⟨rfl, rfl⟩))
  exact bodyPost_ret (v := .tuple #[.agg #[.int .u32 20, .bool true, .int .i64 24, .int .i64 16, .int .i64 51], .int .i64 0]) (by simp [results, Tryz.results114, go_sem]) rfl ⟨rfl, by repeat (first | (with_reducible exact Below.refl _ _) | (with_reducible refine pw_below_drewN ?_ _) | (with_reducible refine Below.setCell ?_ (by simp) _) | (with_reducible refine Below.alloc ?_ (by simp) _))⟩
set_option maxHeartbeats 1000000 in
set_option maxRecDepth 100000 in
theorem r_xms21 (w : World) : Calls Tryz.prog 114 #[.int .u32 21] w fun e w' => e = .returned (.tuple #[.agg #[.int .u32 21, .bool true, .int .i64 24, .int .i64 20, .int .i64 51], .int .i64 0]) ∧ Below w.heap.size w w' := by
  have Co : ∀ w, Calls Tryz.prog 143 #[.int .u32 21, .int .u32 4043309056] w fun e w' => e = .returned (.tuple #[.int .i64 0, .int .i64 0, .bool false]) ∧ w' = w := fun w => r_own 21 4043309056 w (by omega) (by omega) (by omega) (by omega)
  have Ch : ∀ w, Calls Tryz.prog 144 #[.int .i64 3] w fun e w' => e = .returned (.int .i64 24) ∧ w' = w := fun w => r_bytes 3 w (by omega) (by omega)
  have co := Lib.hid Co; have ch := Lib.hid Ch; clear Co Ch
  go_enter Tryz.func114, Tryz.ntmps114
  go_wp2_with (first | (go_at_call 143; refine (co.out _).mono ?_; rintro e w' ⟨rfl, rfl⟩) | (go_at_call 144; refine (ch.out _).mono ?_; rintro e w' ⟨rfl, rfl⟩))
  go_quiet (fail)
  go_wp2_with (first | (go_at_call 143; refine (co.out _).mono ?_; rintro e w' ⟨rfl, rfl⟩) | (go_at_call 144; refine (ch.out _).mono ?_; rintro e w' ⟨rfl, rfl⟩))
  exact bodyPost_ret (v := .tuple #[.agg #[.int .u32 21, .bool true, .int .i64 24, .int .i64 20, .int .i64 51], .int .i64 0]) (by simp [results, Tryz.results114, go_sem]) rfl ⟨rfl, by repeat (first | (with_reducible exact Below.refl _ _) | (with_reducible refine pw_below_drewN ?_ _) | (with_reducible refine Below.setCell ?_ (by simp) _) | (with_reducible refine Below.alloc ?_ (by simp) _))⟩
set_option maxHeartbeats 1000000 in
set_option maxRecDepth 100000 in
theorem r_Xmss (c : Int) (w : World) (g0 : 0 ≤ c) (g1 : c < 4294967296) :
    Calls Tryz.prog 114 #[.int .u32 c] w fun e w' => e = .returned (.tuple #[(xms c).1.enc, .int .i64 (xms c).2]) ∧ Below w.heap.size w w' := by
  by_cases h1 : 1 ≤ c ∧ c ≤ 3
  · obtain rfl | rfl | rfl : c = 1 ∨ c = 2 ∨ c = 3 := by omega
    · exact r_xms1 w
    · exact r_xms2 w
    · exact r_xms3 w
  · by_cases h2 : 13 ≤ c ∧ c ≤ 21
    · obtain rfl | rfl | rfl | rfl | rfl | rfl | rfl | rfl | rfl : c = 13 ∨ c = 14 ∨ c = 15 ∨ c = 16 ∨ c = 17 ∨ c = 18 ∨ c = 19 ∨ c = 20 ∨ c = 21 := by omega
      · exact r_xms13 w
      · exact r_xms14 w
      · exact r_xms15 w
      · exact r_xms16 w
      · exact r_xms17 w
      · exact r_xms18 w
      · exact r_xms19 w
      · exact r_xms20 w
      · exact r_xms21 w
    · have hx : xmsFam c = ownFam c 4043309056 := by unfold xmsFam; rw [if_neg h1, if_neg h2]
      by_cases hb : 4043309056 ≤ c ∧ c < 4043309056 + 64 ∧ 1 ≤ (c - 4043309056) % 16 ∧ (c - 4043309056) % 16 ≤ 4
      · have hy := ownR_yes hb
        rw [xms_eq (hx.trans hy.2)]
        have Co := fun w => r_own c 4043309056 w g0 g1 (by omega) (by omega)
        rw [hy.1] at Co
        have Ch := fun w => r_bytes ((c - 4043309056) / 16) w (by omega) (by omega)
        have g2 : 21 < c := by omega
        have g3 : 13 ≤ c := by omega
        have g4 : 3 < c := by omega
        have g5 : 1 ≤ c := by omega
        have co := Lib.hid Co; have ch := Lib.hid Ch; clear Co Ch hy hx
        obtain ⟨b1, b2⟩ := fBytes_bd ((c - 4043309056) / 16)
        generalize (c - 4043309056) / 16 = f at *
        generalize (c - 4043309056) % 16 = m at *
        clear h1 h2 hb
        go_enter Tryz.func114, Tryz.ntmps114
        go_wp2_with (first
          | (go_at_call 143; refine (co.out _).mono ?_; rintro e w' ⟨rfl, rfl⟩)
          | (go_at_call 144; refine (ch.out _).mono ?_; rintro e w' ⟨rfl, rfl⟩))
        exact bodyPost_ret (v := .tuple #[.agg #[.int .u32 c, .bool (fShake f), .int .i64 (fBytes f), .int .i64 m, .int .i64 (2 * fBytes f + 3)], .int .i64 0]) (by simp [results, Tryz.results114, go_sem, fShake]) rfl ⟨rfl, by repeat (first | (with_reducible exact Below.refl _ _) | (with_reducible refine pw_below_drewN ?_ _) | (with_reducible refine Below.setCell ?_ (by simp) _) | (with_reducible refine Below.alloc ?_ (by simp) _))⟩
      · obtain ⟨f, m, hn1, hn2⟩ := ownR_no hb
        rw [xms_no (hx.trans hn2)]
        have Co := fun w => r_own c 4043309056 w g0 g1 (by omega) (by omega)
        rw [hn1] at Co
        have co := Lib.hid Co; clear Co hn1 hn2 hb hx
        by_cases h5 : 1 ≤ c
        · have h6 : 3 < c := by omega
          clear h1
          by_cases h7 : 13 ≤ c
          · have h8 : 21 < c := by omega
            clear h2
            go_enter Tryz.func114, Tryz.ntmps114
            go_wp2_with (first
              | (go_at_call 143; refine (co.out _).mono ?_; rintro e w' ⟨rfl, rfl⟩))
            exact bodyPost_ret (v := .tuple #[.agg #[.int .u32 0, .bool false, .int .i64 0, .int .i64 0, .int .i64 0], .int .i64 60]) (by simp [results, Tryz.results114, go_sem, fShake]) rfl ⟨rfl, by repeat (first | (with_reducible exact Below.refl _ _) | (with_reducible refine pw_below_drewN ?_ _) | (with_reducible refine Below.setCell ?_ (by simp) _) | (with_reducible refine Below.alloc ?_ (by simp) _))⟩
          · clear h2
            go_enter Tryz.func114, Tryz.ntmps114
            go_wp2_with (first
              | (go_at_call 143; refine (co.out _).mono ?_; rintro e w' ⟨rfl, rfl⟩))
            exact bodyPost_ret (v := .tuple #[.agg #[.int .u32 0, .bool false, .int .i64 0, .int .i64 0, .int .i64 0], .int .i64 60]) (by simp [results, Tryz.results114, go_sem, fShake]) rfl ⟨rfl, by repeat (first | (with_reducible exact Below.refl _ _) | (with_reducible refine pw_below_drewN ?_ _) | (with_reducible refine Below.setCell ?_ (by simp) _) | (with_reducible refine Below.alloc ?_ (by simp) _))⟩
        · have h7 : ¬ 13 ≤ c := by omega
          clear h1 h2
          go_enter Tryz.func114, Tryz.ntmps114
          go_wp2_with (first
            | (go_at_call 143; refine (co.out _).mono ?_; rintro e w' ⟨rfl, rfl⟩))
          exact bodyPost_ret (v := .tuple #[.agg #[.int .u32 0, .bool false, .int .i64 0, .int .i64 0, .int .i64 0], .int .i64 60]) (by simp [results, Tryz.results114, go_sem, fShake]) rfl ⟨rfl, by repeat (first | (with_reducible exact Below.refl _ _) | (with_reducible refine pw_below_drewN ?_ _) | (with_reducible refine Below.setCell ?_ (by simp) _) | (with_reducible refine Below.alloc ?_ (by simp) _))⟩
end Go.Proofs.YtpdinahdcedmkaaGreatDoor.ExtP

