import Derived.Test.YtpdinahdcedmkaaDoorMOts
import Derived.Test.YtpdinahdcedmkaaDoorMDec
import Derived.Lib.Hide
/- param's functions on plain values do what Spec says: own, hashed, height, Ots, Lms, Xmss, known. -/
namespace Go.Proofs.YtpdinahdcedmkaaDoor.ExtP
open Go.Proofs.YtpdinahdcedmkaaDoor.Ext
set_option linter.unusedVariables false
open Go.RowKit Go.Proofs.YtpdinahdcedmkaaDoorW.PrintWords Go.Proofs.YtpdinahdcedmkaaDoor.Spec

theorem otsTab_same (n : Nat) : otsTab n = Spec.otsTab n := by rfl

theorem c_Ots (c : Int) (w : World) (h0 : 0 ≤ c) :
    Calls Tryd.prog 87 #[.int .u32 c] w fun e w' => e = .returned (.tuple #[(ots c).1.enc, .int .i64 (ots c).2]) ∧ Below w.heap.size w w' := by
  have e : param_Ots.f c = some ((ots c).1.code, (ots c).1.shake, (ots c).1.n, (ots c).1.w, (ots c).1.p, (ots c).1.ls, (ots c).2) := by
    unfold param_Ots.f ots
    rw [if_pos h0, otsTab_same]
    cases Spec.otsTab c.toNat <;> rfl
  exact param_Ots.calls _ _ _ _ _ _ _ _ w e

set_option maxHeartbeats 1000000 in
theorem c_hashed (f : Int) (w : World) (h0 : 0 ≤ f) (h1 : f ≤ 3) :
    Calls Tryd.prog 69 #[.int .i64 f] w fun e w' => e = .returned (.tuple #[.bool (fShake f), .int .i64 (fBytes f)]) ∧ w' = w := by
  obtain rfl | rfl | rfl | rfl : f = 0 ∨ f = 1 ∨ f = 2 ∨ f = 3 := by omega
  all_goals
    go_enter Tryd.func69, Tryd.ntmps69
    go_wp2
    go_ret2
    exact ⟨rfl, rfl⟩

set_option maxHeartbeats 1000000 in
theorem c_height (i : Int) (w : World) (h0 : 0 ≤ i) (h1 : i ≤ 2) :
    Calls Tryd.prog 68 #[.int .i64 i] w fun e w' => e = .returned (.int .i64 (height i)) ∧ w' = w := by
  obtain rfl | rfl | rfl : i = 0 ∨ i = 1 ∨ i = 2 := by omega
  all_goals
    go_enter Tryd.func68, Tryd.ntmps68
    go_wp2
    go_ret
    exact ⟨rfl, rfl⟩

/-- what own answers -/
def ownR (c first : Int) : Int × Int × Bool :=
  if c < first then (0, 0, false) else if first + 64 ≤ c then (0, 0, false) else ((c - first) / 16, (c - first) % 16, decide (1 ≤ (c - first) % 16) && decide ((c - first) % 16 ≤ 4))
theorem ownR_no {c first : Int} (h : ¬ (first ≤ c ∧ c < first + 64 ∧ 1 ≤ (c - first) % 16 ∧ (c - first) % 16 ≤ 4)) : ∃ f m : Int, ownR c first = (f, m, false) ∧ ownFam c first = none := by
  have e : ownFam c first = none := by unfold ownFam; rw [if_neg h]
  unfold ownR
  by_cases h1 : c < first
  · exact ⟨0, 0, by rw [if_pos h1], e⟩
  · by_cases h2 : first + 64 ≤ c
    · exact ⟨0, 0, by rw [if_neg h1, if_pos h2], e⟩
    · refine ⟨(c - first) / 16, (c - first) % 16, ?_, e⟩
      rw [if_neg h1, if_neg h2]
      refine Prod.ext rfl (Prod.ext rfl ?_)
      by_cases h3 : 1 ≤ (c - first) % 16
      · have h4 : ¬ (c - first) % 16 ≤ 4 := fun h4 => h ⟨by omega, by omega, h3, h4⟩
        simp [h4]
      · simp [h3]
theorem ownR_yes {c first : Int} (h : first ≤ c ∧ c < first + 64 ∧ 1 ≤ (c - first) % 16 ∧ (c - first) % 16 ≤ 4) : ownR c first = ((c - first) / 16, (c - first) % 16, true) ∧ ownFam c first = some ((c - first) / 16, (c - first) % 16) := by
  constructor
  · unfold ownR
    rw [if_neg (by omega), if_neg (by omega)]
    simp [h.2.2.1, h.2.2.2]
  · unfold ownFam; rw [if_pos h]

set_option maxHeartbeats 1000000 in
theorem c_own (a0 a1 : Int) (w : World) (g0 : 0 ≤ a0) (g1 : a0 < 4294967296) (g2 : 0 ≤ a1) (g3 : a1 + 64 < 4294967296) :
    Calls Tryd.prog 67 #[.int .u32 a0, .int .u32 a1] w fun e w' => e = .returned (.tuple #[.int .i64 (ownR a0 a1).1, .int .i64 (ownR a0 a1).2.1, .bool (ownR a0 a1).2.2]) ∧ w' = w := by
  by_cases h1 : a0 < a1
  · have e : ownR a0 a1 = (0, 0, false) := by unfold ownR; rw [if_pos h1]
    rw [e]
    clear e
    go_enter Tryd.func67, Tryd.ntmps67
    go_wp2
    go_ret3
    exact ⟨rfl, rfl⟩
  · by_cases h2 : a1 + 64 ≤ a0
    · have e : ownR a0 a1 = (0, 0, false) := by unfold ownR; rw [if_neg h1, if_pos h2]
      rw [e]
      clear e
      go_enter Tryd.func67, Tryd.ntmps67
      go_wp2
      go_ret3
      exact ⟨rfl, rfl⟩
    · have e : ownR a0 a1 = ((a0 - a1) / 16, (a0 - a1) % 16, decide (1 ≤ (a0 - a1) % 16) && decide ((a0 - a1) % 16 ≤ 4)) := by unfold ownR; rw [if_neg h1, if_neg h2]
      rw [e]
      clear e
      have d0 : 0 ≤ a0 - a1 := by omega
      have d1 : a0 - a1 < 64 := by omega
      by_cases h3 : 1 ≤ (a0 - a1) % 16
      · have h3b : decide (1 ≤ (a0 - a1) % 16) = true := decide_eq_true h3
        rw [h3b, Bool.true_and]
        go_enter Tryd.func67, Tryd.ntmps67
        go_wp2
        go_ret3
        exact ⟨rfl, rfl⟩
      · have h3b : decide (1 ≤ (a0 - a1) % 16) = false := decide_eq_false h3
        rw [h3b, Bool.false_and]
        go_enter Tryd.func67, Tryd.ntmps67
        go_wp2
        go_ret3
        exact ⟨rfl, rfl⟩

set_option maxHeartbeats 1000000 in
set_option maxRecDepth 100000 in
theorem c_Lms (c : Int) (w : World) (g0 : 0 ≤ c) (g1 : c < 4294967296) :
    Calls Tryd.prog 86 #[.int .u32 c] w fun e w' => e = .returned (.tuple #[(lms c).1.enc, .int .i64 (lms c).2]) ∧ Below w.heap.size w w' := by
  by_cases h1 : 5 ≤ c ∧ c ≤ 24
  · rw [lms_eq (show lmsFam c = some ((c - 5) / 5, 5 * (c % 5 + 1)) by unfold lmsFam; rw [if_pos h1])]
    obtain ⟨h1, h2⟩ := h1
    have Co := fun w => c_own c 4026531840 w g0 g1 (by omega) (by omega)
    have Ch := fun w => c_hashed ((c - 5) / 5) w (by omega) (by omega)
    have co := Lib.hid Co; have ch := Lib.hid Ch; clear Co Ch
    go_enter Tryd.func86, Tryd.ntmps86
    go_wp2_with (first
      | (go_at_call 67; refine (co.out _).mono ?_; rintro e w' ⟨rfl, rfl⟩)
      | (go_at_call 69; refine (ch.out _).mono ?_; rintro e w' ⟨rfl, rfl⟩))
    exact bodyPost_ret (v := .tuple #[.agg #[.int .u32 c, .bool (fShake ((c - 5) / 5)), .int .i64 (fBytes ((c - 5) / 5)), .int .i64 (5 * (c % 5 + 1))], .int .i64 0]) (by simp [results, Tryd.results86, go_sem]) rfl ⟨rfl, by repeat (first | exact Below.refl _ _ | refine Below.setCell ?_ (Nat.le_refl _) _ | refine Below.alloc ?_ (Nat.le_refl _) _)⟩
  · by_cases hb : 4026531840 ≤ c ∧ c < 4026531840 + 64 ∧ 1 ≤ (c - 4026531840) % 16 ∧ (c - 4026531840) % 16 ≤ 4
    · have hy := ownR_yes hb
      rw [lms_eq (show lmsFam c = some ((c - 4026531840) / 16, (c - 4026531840) % 16) by unfold lmsFam; rw [if_neg h1]; exact hy.2)]
      have Co := fun w => c_own c 4026531840 w g0 g1 (by omega) (by omega)
      rw [hy.1] at Co
      have Ch := fun w => c_hashed ((c - 4026531840) / 16) w (by omega) (by omega)
      have co := Lib.hid Co; have ch := Lib.hid Ch; clear Co Ch hy
      have g2 : 24 < c := by omega
      have g3 : 5 ≤ c := by omega
      generalize (c - 4026531840) / 16 = f at *
      generalize (c - 4026531840) % 16 = m at *
      clear h1 hb
      go_enter Tryd.func86, Tryd.ntmps86
      go_wp2_with (first
        | (go_at_call 67; refine (co.out _).mono ?_; rintro e w' ⟨rfl, rfl⟩)
        | (go_at_call 69; refine (ch.out _).mono ?_; rintro e w' ⟨rfl, rfl⟩))
      exact bodyPost_ret (v := .tuple #[.agg #[.int .u32 c, .bool (fShake f), .int .i64 (fBytes f), .int .i64 m], .int .i64 0]) (by simp [results, Tryd.results86, go_sem]) rfl ⟨rfl, by repeat (first | exact Below.refl _ _ | refine Below.setCell ?_ (Nat.le_refl _) _ | refine Below.alloc ?_ (Nat.le_refl _) _)⟩
    · obtain ⟨f, m, hn1, hn2⟩ := ownR_no hb
      rw [lms_no (show lmsFam c = none by unfold lmsFam; rw [if_neg h1]; exact hn2)]
      have Co := fun w => c_own c 4026531840 w g0 g1 (by omega) (by omega)
      rw [hn1] at Co
      have co := Lib.hid Co; clear Co hn1 hn2 hb
      by_cases h5 : 5 ≤ c
      · have h6 : 24 < c := by omega
        clear h1
        go_enter Tryd.func86, Tryd.ntmps86
        go_wp2_with (first
          | (go_at_call 67; refine (co.out _).mono ?_; rintro e w' ⟨rfl, rfl⟩))
        exact bodyPost_ret (v := .tuple #[.agg #[.int .u32 0, .bool false, .int .i64 0, .int .i64 0], .int .i64 60]) (by simp [results, Tryd.results86, go_sem]) rfl ⟨rfl, by repeat (first | exact Below.refl _ _ | refine Below.setCell ?_ (Nat.le_refl _) _ | refine Below.alloc ?_ (Nat.le_refl _) _)⟩
      · clear h1
        go_enter Tryd.func86, Tryd.ntmps86
        go_wp2_with (first
          | (go_at_call 67; refine (co.out _).mono ?_; rintro e w' ⟨rfl, rfl⟩))
        exact bodyPost_ret (v := .tuple #[.agg #[.int .u32 0, .bool false, .int .i64 0, .int .i64 0], .int .i64 60]) (by simp [results, Tryd.results86, go_sem]) rfl ⟨rfl, by repeat (first | exact Below.refl _ _ | refine Below.setCell ?_ (Nat.le_refl _) _ | refine Below.alloc ?_ (Nat.le_refl _) _)⟩
theorem fBytes_bd (f : Int) : 24 ≤ fBytes f ∧ fBytes f ≤ 32 := by unfold fBytes; split <;> omega
set_option maxHeartbeats 1000000 in
set_option maxRecDepth 100000 in
theorem c_Xmss (c : Int) (w : World) (g0 : 0 ≤ c) (g1 : c < 4294967296) :
    Calls Tryd.prog 48 #[.int .u32 c] w fun e w' => e = .returned (.tuple #[(xms c).1.enc, .int .i64 (xms c).2]) ∧ Below w.heap.size w w' := by
  by_cases h1 : 1 ≤ c ∧ c ≤ 3
  · rw [xms_eq (show xmsFam c = some (0, height (c - 1)) by unfold xmsFam; rw [if_pos h1])]
    obtain ⟨h1, h2⟩ := h1
    obtain ⟨b1, b2⟩ := fBytes_bd 0
    have Co := fun w => c_own c 4043309056 w g0 g1 (by omega) (by omega)
    have Ch := fun w => c_hashed 0 w (by omega) (by omega)
    have Ci := fun w => c_height (c - 1) w (by omega) (by omega)
    have co := Lib.hid Co; have ch := Lib.hid Ch; have ci := Lib.hid Ci; clear Co Ch Ci
    go_enter Tryd.func48, Tryd.ntmps48
    go_wp2_with (first
      | (go_at_call 67; refine (co.out _).mono ?_; rintro e w' ⟨rfl, rfl⟩)
      | (go_at_call 69; refine (ch.out _).mono ?_; rintro e w' ⟨rfl, rfl⟩)
      | (go_at_call 68; refine (ci.out _).mono ?_; rintro e w' ⟨rfl, rfl⟩))
    exact bodyPost_ret (v := .tuple #[.agg #[.int .u32 c, .bool (fShake 0), .int .i64 (fBytes 0), .int .i64 (height (c - 1)), .int .i64 (2 * fBytes 0 + 3)], .int .i64 0]) (by simp [results, Tryd.results48, go_sem]) rfl ⟨rfl, by repeat (first | exact Below.refl _ _ | refine Below.setCell ?_ (Nat.le_refl _) _ | refine Below.alloc ?_ (Nat.le_refl _) _)⟩
  · by_cases h2 : 13 ≤ c ∧ c ≤ 21
    · rw [xms_eq (show xmsFam c = some (1 + (c - 13) / 3, height ((c - 13) % 3)) by unfold xmsFam; rw [if_neg h1, if_pos h2])]
      obtain ⟨h2, h3⟩ := h2
      have h4 : 3 < c := by omega
      have h5 : 1 ≤ c := by omega
      clear h1
      obtain ⟨b1, b2⟩ := fBytes_bd (1 + (c - 13) / 3)
      have Co := fun w => c_own c 4043309056 w g0 g1 (by omega) (by omega)
      have Ch := fun w => c_hashed (1 + (c - 13) / 3) w (by omega) (by omega)
      have Ci := fun w => c_height ((c - 13) % 3) w (by omega) (by omega)
      have co := Lib.hid Co; have ch := Lib.hid Ch; have ci := Lib.hid Ci; clear Co Ch Ci
      go_enter Tryd.func48, Tryd.ntmps48
      go_wp2_with (first
        | (go_at_call 67; refine (co.out _).mono ?_; rintro e w' ⟨rfl, rfl⟩)
        | (go_at_call 69; refine (ch.out _).mono ?_; rintro e w' ⟨rfl, rfl⟩)
        | (go_at_call 68; refine (ci.out _).mono ?_; rintro e w' ⟨rfl, rfl⟩))
      exact bodyPost_ret (v := .tuple #[.agg #[.int .u32 c, .bool (fShake (1 + (c - 13) / 3)), .int .i64 (fBytes (1 + (c - 13) / 3)), .int .i64 (height ((c - 13) % 3)), .int .i64 (2 * fBytes (1 + (c - 13) / 3) + 3)], .int .i64 0]) (by simp [results, Tryd.results48, go_sem]) rfl ⟨rfl, by repeat (first | exact Below.refl _ _ | refine Below.setCell ?_ (Nat.le_refl _) _ | refine Below.alloc ?_ (Nat.le_refl _) _)⟩
    · have hx : xmsFam c = ownFam c 4043309056 := by unfold xmsFam; rw [if_neg h1, if_neg h2]
      by_cases hb : 4043309056 ≤ c ∧ c < 4043309056 + 64 ∧ 1 ≤ (c - 4043309056) % 16 ∧ (c - 4043309056) % 16 ≤ 4
      · have hy := ownR_yes hb
        rw [xms_eq (hx.trans hy.2)]
        have Co := fun w => c_own c 4043309056 w g0 g1 (by omega) (by omega)
        rw [hy.1] at Co
        have Ch := fun w => c_hashed ((c - 4043309056) / 16) w (by omega) (by omega)
        have g2 : 21 < c := by omega
        have g3 : 13 ≤ c := by omega
        have g4 : 3 < c := by omega
        have g5 : 1 ≤ c := by omega
        have co := Lib.hid Co; have ch := Lib.hid Ch; clear Co Ch hy hx
        obtain ⟨b1, b2⟩ := fBytes_bd ((c - 4043309056) / 16)
        generalize (c - 4043309056) / 16 = f at *
        generalize (c - 4043309056) % 16 = m at *
        clear h1 h2 hb
        go_enter Tryd.func48, Tryd.ntmps48
        go_wp2_with (first
          | (go_at_call 67; refine (co.out _).mono ?_; rintro e w' ⟨rfl, rfl⟩)
          | (go_at_call 69; refine (ch.out _).mono ?_; rintro e w' ⟨rfl, rfl⟩))
        exact bodyPost_ret (v := .tuple #[.agg #[.int .u32 c, .bool (fShake f), .int .i64 (fBytes f), .int .i64 m, .int .i64 (2 * fBytes f + 3)], .int .i64 0]) (by simp [results, Tryd.results48, go_sem]) rfl ⟨rfl, by repeat (first | exact Below.refl _ _ | refine Below.setCell ?_ (Nat.le_refl _) _ | refine Below.alloc ?_ (Nat.le_refl _) _)⟩
      · obtain ⟨f, m, hn1, hn2⟩ := ownR_no hb
        rw [xms_no (hx.trans hn2)]
        have Co := fun w => c_own c 4043309056 w g0 g1 (by omega) (by omega)
        rw [hn1] at Co
        have co := Lib.hid Co; clear Co hn1 hn2 hb hx
        by_cases h5 : 1 ≤ c
        · have h6 : 3 < c := by omega
          clear h1
          by_cases h7 : 13 ≤ c
          · have h8 : 21 < c := by omega
            clear h2
            go_enter Tryd.func48, Tryd.ntmps48
            go_wp2_with (first
              | (go_at_call 67; refine (co.out _).mono ?_; rintro e w' ⟨rfl, rfl⟩))
            exact bodyPost_ret (v := .tuple #[.agg #[.int .u32 0, .bool false, .int .i64 0, .int .i64 0, .int .i64 0], .int .i64 60]) (by simp [results, Tryd.results48, go_sem]) rfl ⟨rfl, by repeat (first | exact Below.refl _ _ | refine Below.setCell ?_ (Nat.le_refl _) _ | refine Below.alloc ?_ (Nat.le_refl _) _)⟩
          · clear h2
            go_enter Tryd.func48, Tryd.ntmps48
            go_wp2_with (first
              | (go_at_call 67; refine (co.out _).mono ?_; rintro e w' ⟨rfl, rfl⟩))
            exact bodyPost_ret (v := .tuple #[.agg #[.int .u32 0, .bool false, .int .i64 0, .int .i64 0, .int .i64 0], .int .i64 60]) (by simp [results, Tryd.results48, go_sem]) rfl ⟨rfl, by repeat (first | exact Below.refl _ _ | refine Below.setCell ?_ (Nat.le_refl _) _ | refine Below.alloc ?_ (Nat.le_refl _) _)⟩
        · have h7 : ¬ 13 ≤ c := by omega
          clear h1 h2
          go_enter Tryd.func48, Tryd.ntmps48
          go_wp2_with (first
            | (go_at_call 67; refine (co.out _).mono ?_; rintro e w' ⟨rfl, rfl⟩))
          exact bodyPost_ret (v := .tuple #[.agg #[.int .u32 0, .bool false, .int .i64 0, .int .i64 0, .int .i64 0], .int .i64 60]) (by simp [results, Tryd.results48, go_sem]) rfl ⟨rfl, by repeat (first | exact Below.refl _ _ | refine Below.setCell ?_ (Nat.le_refl _) _ | refine Below.alloc ?_ (Nat.le_refl _) _)⟩

theorem ots_err (c : Int) : (ots c).2 = 0 ∨ (ots c).2 = 60 := by unfold ots; split <;> simp
theorem lms_err (c : Int) : (lms c).2 = 0 ∨ (lms c).2 = 60 := by unfold lms; split <;> simp
set_option maxHeartbeats 1000000 in
set_option maxRecDepth 100000 in
theorem c_known (k c : Int) (w : World) (g0 : 0 ≤ c) (g1 : c < 4294967296) :
    Calls Tryd.prog 90 #[.int .i64 k, .int .u32 c] w fun e w' => e = .returned (.bool (known k c)) ∧ Below w.heap.size w w' := by
  by_cases h1 : k = 1
  · subst h1
    rw [show known 1 c = ((ots c).2 == 0) from rfl]
    have Co := fun w => c_Ots c w g0
    have co := Lib.hid Co; clear Co
    go_enter Tryd.func90, Tryd.ntmps90
    go_wp2_with (first
      | (go_at_call 87; refine (co.out _).mono ?_; rintro e w1 ⟨rfl, hb⟩))
    go_ret
    exact ⟨rfl, hb⟩
  by_cases h2 : k = 2
  · subst h2
    rw [show known 2 c = ((lms c).2 == 0) from rfl]
    have Co := fun w => c_Lms c w g0 g1
    have co := Lib.hid Co; clear Co
    go_enter Tryd.func90, Tryd.ntmps90
    go_wp2_with (first
      | (go_at_call 86; refine (co.out _).mono ?_; rintro e w1 ⟨rfl, hb⟩))
    go_ret
    exact ⟨rfl, hb⟩
  by_cases h3 : k = 3
  · subst h3
    rw [show known 3 c = ((xms c).2 == 0) from rfl]
    have Co := fun w => c_Xmss c w g0 g1
    have co := Lib.hid Co; clear Co
    go_enter Tryd.func90, Tryd.ntmps90
    go_wp2_with (first
      | (go_at_call 48; refine (co.out _).mono ?_; rintro e w1 ⟨rfl, hb⟩))
    go_ret
    exact ⟨rfl, hb⟩
  have hk : known k c = false := by unfold known; rw [if_neg h1, if_neg h2, if_neg h3]
  rw [hk]
  clear hk
  have t1 : (k == 1) = false := beq_eq_false_iff_ne.2 h1
  have t2 : (k == 2) = false := beq_eq_false_iff_ne.2 h2
  have t3 : (k == 3) = false := beq_eq_false_iff_ne.2 h3
  go_enter Tryd.func90, Tryd.ntmps90
  go_wp2
  go_ret
  exact ⟨rfl, Below.refl _ _⟩

set_option maxHeartbeats 1000000 in
theorem c_sum (b : Bool) (s t : ByteArray) (w : World) :
    Calls Tryd.prog 91 #[.bool b, .string s, .string t] w fun e w' => e = .returned (.string (if b = true then s else t)) ∧ w' = w := by
  cases b
  all_goals
    go_enter Tryd.func91, Tryd.ntmps91
    go_wp2
    go_ret
    exact ⟨rfl, rfl⟩
theorem c_Decimal (n : Int) (w : World) (h0 : 0 ≤ n) (h1 : n < 18446744073709551616) :
    Calls Tryd.prog 52 #[.int .u64 n] w fun e w' => e = .returned (.string (strOfNums (decL n.toNat))) ∧ Below w.heap.size w w' :=
  octet_Decimal.calls n _ w (by unfold octet_Decimal.f; rw [if_pos h0, if_pos h1])
set_option maxHeartbeats 1000000 in
theorem c_digits (n : Int) (w : World) (h0 : 0 ≤ n) (h1 : n < 9223372036854775808) :
    Calls Tryd.prog 92 #[.int .i64 n] w fun e w' => e = .returned (.string (strOfNums (decL n.toNat))) ∧ Below w.heap.size w w' := by
  have Co := fun w => c_Decimal n w h0 (by omega)
  have co := Lib.hid Co; clear Co
  go_enter Tryd.func92, Tryd.ntmps92
  go_wp2_with (first
      | (go_at_call 52; refine (co.out _).mono ?_; rintro e w1 ⟨rfl, hb⟩))
  go_ret
  exact ⟨rfl, hb⟩
end Go.Proofs.YtpdinahdcedmkaaDoor.ExtP

