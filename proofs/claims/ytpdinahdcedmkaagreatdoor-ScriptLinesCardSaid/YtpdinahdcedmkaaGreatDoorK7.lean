import Derived.Test.YtpdinahdcedmkaaGreatDoorK4
import Derived.Test.YtpdinahdcedmkaaGreatDoorK6
import Derived.Lib.Hide
set_option maxHeartbeats 4000000
set_option maxRecDepth 100000
/- param.Ots returns the set of its code, or ErrCode: for any uint32, in any memory. -/
namespace Go.Proofs.YtpdinahdcedmkaaGreatDoor.ExtP
open Go.Proofs.YtpdinahdcedmkaaGreatDoor.Ext
open Go.RowKit Go.Proofs.YtpdinahdcedmkaaGreatDoorW.PrintWords Go.Proofs.YtpdinahdcedmkaaGreatDoorW.PrintLast Go.Proofs.YtpdinahdcedmkaaGreatDoorW.PrintMore
/-- The sets of the sixteen codes: shake, n, w, p, ls. -/
def otsTab : Nat -> Option (Bool × Int × Int × Int × Int)
 | 1 => some (false, 32, 1, 265, 7)
 | 2 => some (false, 32, 2, 133, 6)
 | 3 => some (false, 32, 4, 67, 4)
 | 4 => some (false, 32, 8, 34, 0)
 | 5 => some (false, 24, 1, 200, 8)
 | 6 => some (false, 24, 2, 101, 6)
 | 7 => some (false, 24, 4, 51, 4)
 | 8 => some (false, 24, 8, 26, 0)
 | 9 => some (true, 32, 1, 265, 7)
 | 10 => some (true, 32, 2, 133, 6)
 | 11 => some (true, 32, 4, 67, 4)
 | 12 => some (true, 32, 8, 34, 0)
 | 13 => some (true, 24, 1, 200, 8)
 | 14 => some (true, 24, 2, 101, 6)
 | 15 => some (true, 24, 4, 51, 4)
 | 16 => some (true, 24, 8, 26, 0)
 | _ => none
def otsV (c : Nat) : Value := match otsTab c with | some (s, n, w, p, l) => .tuple #[.agg #[.int .u32 c, .bool s, .int .i64 n, .int .i64 w, .int .i64 p, .int .i64 l], .int .i64 0] | none => .tuple #[]
theorem otsA (c : Int) (w : World) (h1 : 1 <= c) (h2 : c <= 16) : Calls Tryz.prog 164 #[.int .u32 c] w fun e w' => e = .returned (otsV c.toNat) /\ Below w.heap.size w w' := by
 obtain rfl | rfl | rfl | rfl | rfl | rfl | rfl | rfl | rfl | rfl | rfl | rfl | rfl | rfl | rfl | rfl : c = 1 \/ c = 2 \/ c = 3 \/ c = 4 \/ c = 5 \/ c = 6 \/ c = 7 \/ c = 8 \/ c = 9 \/ c = 10 \/ c = 11 \/ c = 12 \/ c = 13 \/ c = 14 \/ c = 15 \/ c = 16 := by omega
 all_goals
  clear h1 h2
  first
  | (with_reducible show Calls _ _ #[.int .u32 1] _ _
     obtain ⟨V, hV⟩ : ∃ V : Value, V = .tuple #[.agg #[.int .u32 1, .bool false, .int .i64 32, .int .i64 1, .int .i64 265, .int .i64 7], .int .i64 0] := ⟨_, rfl⟩
     go_enter Tryz.func164, Tryz.ntmps164
     go_wp2
     go_loop [8] (fun v => ∃ k : Nat, 1 <= k /\ k <= 9 /\ v = .int .i64 k) (fun v => 9 - (intOf v).toNat))
  | (with_reducible show Calls _ _ #[.int .u32 2] _ _
     obtain ⟨V, hV⟩ : ∃ V : Value, V = .tuple #[.agg #[.int .u32 2, .bool false, .int .i64 32, .int .i64 2, .int .i64 133, .int .i64 6], .int .i64 0] := ⟨_, rfl⟩
     go_enter Tryz.func164, Tryz.ntmps164
     go_wp2
     go_loop [8] (fun v => ∃ k : Nat, 1 <= k /\ k <= 5 /\ v = .int .i64 k) (fun v => 5 - (intOf v).toNat))
  | (with_reducible show Calls _ _ #[.int .u32 3] _ _
     obtain ⟨V, hV⟩ : ∃ V : Value, V = .tuple #[.agg #[.int .u32 3, .bool false, .int .i64 32, .int .i64 4, .int .i64 67, .int .i64 4], .int .i64 0] := ⟨_, rfl⟩
     go_enter Tryz.func164, Tryz.ntmps164
     go_wp2
     go_loop [8] (fun v => ∃ k : Nat, 1 <= k /\ k <= 3 /\ v = .int .i64 k) (fun v => 3 - (intOf v).toNat))
  | (with_reducible show Calls _ _ #[.int .u32 4] _ _
     obtain ⟨V, hV⟩ : ∃ V : Value, V = .tuple #[.agg #[.int .u32 4, .bool false, .int .i64 32, .int .i64 8, .int .i64 34, .int .i64 0], .int .i64 0] := ⟨_, rfl⟩
     go_enter Tryz.func164, Tryz.ntmps164
     go_wp2
     go_loop [8] (fun v => ∃ k : Nat, 1 <= k /\ k <= 2 /\ v = .int .i64 k) (fun v => 2 - (intOf v).toNat))
  | (with_reducible show Calls _ _ #[.int .u32 5] _ _
     obtain ⟨V, hV⟩ : ∃ V : Value, V = .tuple #[.agg #[.int .u32 5, .bool false, .int .i64 24, .int .i64 1, .int .i64 200, .int .i64 8], .int .i64 0] := ⟨_, rfl⟩
     go_enter Tryz.func164, Tryz.ntmps164
     go_wp2
     go_loop [8] (fun v => ∃ k : Nat, 1 <= k /\ k <= 8 /\ v = .int .i64 k) (fun v => 8 - (intOf v).toNat))
  | (with_reducible show Calls _ _ #[.int .u32 6] _ _
     obtain ⟨V, hV⟩ : ∃ V : Value, V = .tuple #[.agg #[.int .u32 6, .bool false, .int .i64 24, .int .i64 2, .int .i64 101, .int .i64 6], .int .i64 0] := ⟨_, rfl⟩
     go_enter Tryz.func164, Tryz.ntmps164
     go_wp2
     go_loop [8] (fun v => ∃ k : Nat, 1 <= k /\ k <= 5 /\ v = .int .i64 k) (fun v => 5 - (intOf v).toNat))
  | (with_reducible show Calls _ _ #[.int .u32 7] _ _
     obtain ⟨V, hV⟩ : ∃ V : Value, V = .tuple #[.agg #[.int .u32 7, .bool false, .int .i64 24, .int .i64 4, .int .i64 51, .int .i64 4], .int .i64 0] := ⟨_, rfl⟩
     go_enter Tryz.func164, Tryz.ntmps164
     go_wp2
     go_loop [8] (fun v => ∃ k : Nat, 1 <= k /\ k <= 3 /\ v = .int .i64 k) (fun v => 3 - (intOf v).toNat))
  | (with_reducible show Calls _ _ #[.int .u32 8] _ _
     obtain ⟨V, hV⟩ : ∃ V : Value, V = .tuple #[.agg #[.int .u32 8, .bool false, .int .i64 24, .int .i64 8, .int .i64 26, .int .i64 0], .int .i64 0] := ⟨_, rfl⟩
     go_enter Tryz.func164, Tryz.ntmps164
     go_wp2
     go_loop [8] (fun v => ∃ k : Nat, 1 <= k /\ k <= 2 /\ v = .int .i64 k) (fun v => 2 - (intOf v).toNat))
  | (with_reducible show Calls _ _ #[.int .u32 9] _ _
     obtain ⟨V, hV⟩ : ∃ V : Value, V = .tuple #[.agg #[.int .u32 9, .bool true, .int .i64 32, .int .i64 1, .int .i64 265, .int .i64 7], .int .i64 0] := ⟨_, rfl⟩
     go_enter Tryz.func164, Tryz.ntmps164
     go_wp2
     go_loop [8] (fun v => ∃ k : Nat, 1 <= k /\ k <= 9 /\ v = .int .i64 k) (fun v => 9 - (intOf v).toNat))
  | (with_reducible show Calls _ _ #[.int .u32 10] _ _
     obtain ⟨V, hV⟩ : ∃ V : Value, V = .tuple #[.agg #[.int .u32 10, .bool true, .int .i64 32, .int .i64 2, .int .i64 133, .int .i64 6], .int .i64 0] := ⟨_, rfl⟩
     go_enter Tryz.func164, Tryz.ntmps164
     go_wp2
     go_loop [8] (fun v => ∃ k : Nat, 1 <= k /\ k <= 5 /\ v = .int .i64 k) (fun v => 5 - (intOf v).toNat))
  | (with_reducible show Calls _ _ #[.int .u32 11] _ _
     obtain ⟨V, hV⟩ : ∃ V : Value, V = .tuple #[.agg #[.int .u32 11, .bool true, .int .i64 32, .int .i64 4, .int .i64 67, .int .i64 4], .int .i64 0] := ⟨_, rfl⟩
     go_enter Tryz.func164, Tryz.ntmps164
     go_wp2
     go_loop [8] (fun v => ∃ k : Nat, 1 <= k /\ k <= 3 /\ v = .int .i64 k) (fun v => 3 - (intOf v).toNat))
  | (with_reducible show Calls _ _ #[.int .u32 12] _ _
     obtain ⟨V, hV⟩ : ∃ V : Value, V = .tuple #[.agg #[.int .u32 12, .bool true, .int .i64 32, .int .i64 8, .int .i64 34, .int .i64 0], .int .i64 0] := ⟨_, rfl⟩
     go_enter Tryz.func164, Tryz.ntmps164
     go_wp2
     go_loop [8] (fun v => ∃ k : Nat, 1 <= k /\ k <= 2 /\ v = .int .i64 k) (fun v => 2 - (intOf v).toNat))
  | (with_reducible show Calls _ _ #[.int .u32 13] _ _
     obtain ⟨V, hV⟩ : ∃ V : Value, V = .tuple #[.agg #[.int .u32 13, .bool true, .int .i64 24, .int .i64 1, .int .i64 200, .int .i64 8], .int .i64 0] := ⟨_, rfl⟩
     go_enter Tryz.func164, Tryz.ntmps164
     go_wp2
     go_loop [8] (fun v => ∃ k : Nat, 1 <= k /\ k <= 8 /\ v = .int .i64 k) (fun v => 8 - (intOf v).toNat))
  | (with_reducible show Calls _ _ #[.int .u32 14] _ _
     obtain ⟨V, hV⟩ : ∃ V : Value, V = .tuple #[.agg #[.int .u32 14, .bool true, .int .i64 24, .int .i64 2, .int .i64 101, .int .i64 6], .int .i64 0] := ⟨_, rfl⟩
     go_enter Tryz.func164, Tryz.ntmps164
     go_wp2
     go_loop [8] (fun v => ∃ k : Nat, 1 <= k /\ k <= 5 /\ v = .int .i64 k) (fun v => 5 - (intOf v).toNat))
  | (with_reducible show Calls _ _ #[.int .u32 15] _ _
     obtain ⟨V, hV⟩ : ∃ V : Value, V = .tuple #[.agg #[.int .u32 15, .bool true, .int .i64 24, .int .i64 4, .int .i64 51, .int .i64 4], .int .i64 0] := ⟨_, rfl⟩
     go_enter Tryz.func164, Tryz.ntmps164
     go_wp2
     go_loop [8] (fun v => ∃ k : Nat, 1 <= k /\ k <= 3 /\ v = .int .i64 k) (fun v => 3 - (intOf v).toNat))
  | (with_reducible show Calls _ _ #[.int .u32 16] _ _
     obtain ⟨V, hV⟩ : ∃ V : Value, V = .tuple #[.agg #[.int .u32 16, .bool true, .int .i64 24, .int .i64 8, .int .i64 26, .int .i64 0], .int .i64 0] := ⟨_, rfl⟩
     go_enter Tryz.func164, Tryz.ntmps164
     go_wp2
     go_loop [8] (fun v => ∃ k : Nat, 1 <= k /\ k <= 2 /\ v = .int .i64 k) (fun v => 2 - (intOf v).toNat))
  case atStart => exact ⟨1, by omega, by omega, rfl⟩
  case round =>
   obtain ⟨k, h1, h2, rfl⟩ := hrel
   obtain h | h | h | h | h | h | h | h | h : k = 1 \/ k = 2 \/ k = 3 \/ k = 4 \/ k = 5 \/ k = 6 \/ k = 7 \/ k = 8 \/ k = 9 := by omega
   all_goals first
    | (exfalso; omega)
    | (subst h; clear h1 h2
       go_wp2
       first
        | (go_round
           case rel => exact ⟨_, by decide, by decide, rfl⟩
           case measure => simp [intOf])
        | exact bodyPost_ret (v := V) (by rw [hV]; simp [results, Tryz.results164, go_sem]) rfl ⟨by rw [hV]; rfl, (Below.refl _ _).alloc (Nat.le_refl _) _⟩)
theorem ots0 (w : World) : Calls Tryz.prog 164 #[.int .u32 0] w fun e w' => e = .returned (.tuple #[.agg #[.int .u32 0, .bool false, .int .i64 0, .int .i64 0, .int .i64 0, .int .i64 0], .int .i64 60]) /\ Below w.heap.size w w' := by
 go_enter Tryz.func164, Tryz.ntmps164
 go_wp2
 exact bodyPost_ret (v := .tuple #[.agg #[.int .u32 0, .bool false, .int .i64 0, .int .i64 0, .int .i64 0, .int .i64 0], .int .i64 60]) (by simp [results, Tryz.results164, go_sem]) rfl ⟨rfl, by repeat (first | exact Below.refl _ _ | refine Below.setCell ?_ (Nat.le_refl _) _ | refine Below.alloc ?_ (Nat.le_refl _) _)⟩
theorem otsBig (a : Int) (h1 : 16 < a) (w : World) : Calls Tryz.prog 164 #[.int .u32 a] w fun e w' => e = .returned (.tuple #[.agg #[.int .u32 0, .bool false, .int .i64 0, .int .i64 0, .int .i64 0, .int .i64 0], .int .i64 60]) /\ Below w.heap.size w w' := by
 have h0 : 1 <= a := by omega
 go_enter Tryz.func164, Tryz.ntmps164
 go_wp2
 exact bodyPost_ret (v := .tuple #[.agg #[.int .u32 0, .bool false, .int .i64 0, .int .i64 0, .int .i64 0, .int .i64 0], .int .i64 60]) (by simp [results, Tryz.results164, go_sem]) rfl ⟨rfl, by repeat (first | exact Below.refl _ _ | refine Below.setCell ?_ (Nat.le_refl _) _ | refine Below.alloc ?_ (Nat.le_refl _) _)⟩
def param_Ots.f (a0 : Int) : Option (Int × Bool × Int × Int × Int × Int × Int) :=
 if 0 <= a0 then
  (match otsTab a0.toNat with
  | some (s, n, w, p, l) => some (a0, s, n, w, p, l, 0)
  | none => some (0, false, 0, 0, 0, 0, 60))
 else none
theorem otsTab_big (n : Nat) (h : 16 < n) : otsTab n = none := by
 unfold otsTab
 split <;> first | omega | rfl
theorem param_Ots.calls (a0 r1 : Int) (r2 : Bool) (r3 r4 r5 r6 r7 : Int) (w : World) (h : param_Ots.f a0 = some (r1, r2, r3, r4, r5, r6, r7)) :
 Calls Tryz.prog 164 #[.int .u32 a0] w fun e w' => e = .returned (.tuple #[.agg #[.int .u32 r1, .bool r2, .int .i64 r3, .int .i64 r4, .int .i64 r5, .int .i64 r6], .int .i64 r7]) /\ Below w.heap.size w w' := by
 unfold param_Ots.f at h
 by_cases h0 : 0 <= a0
 · rw [if_pos h0] at h
   by_cases hb : 16 < a0
   · rw [otsTab_big _ (by omega)] at h
     simp only [Option.some.injEq, Prod.mk.injEq] at h
     obtain ⟨rfl, rfl, rfl, rfl, rfl, rfl, rfl⟩ := h
     exact otsBig a0 hb w
   · by_cases hz : a0 = 0
     · subst hz
       simp only [otsTab, Int.reduceToNat, Option.some.injEq, Prod.mk.injEq] at h
       obtain ⟨rfl, rfl, rfl, rfl, rfl, rfl, rfl⟩ := h
       exact ots0 w
     · obtain ⟨c, rfl⟩ := Int.eq_ofNat_of_zero_le h0
       have key := otsA c w (by omega) (by omega)
       unfold otsV at key
       rw [Int.toNat_natCast] at h key
       cases ht : otsTab c with
       | none =>
         exfalso
         obtain rfl | rfl | rfl | rfl | rfl | rfl | rfl | rfl | rfl | rfl | rfl | rfl | rfl | rfl | rfl | rfl : c = 1 \/ c = 2 \/ c = 3 \/ c = 4 \/ c = 5 \/ c = 6 \/ c = 7 \/ c = 8 \/ c = 9 \/ c = 10 \/ c = 11 \/ c = 12 \/ c = 13 \/ c = 14 \/ c = 15 \/ c = 16 := by omega
         all_goals cases ht
       | some x =>
         obtain ⟨y1, y2, y3, y4, y5⟩ := x
         rw [ht] at h key
         simp only [Option.some.injEq, Prod.mk.injEq] at h
         obtain ⟨rfl, rfl, rfl, rfl, rfl, rfl, rfl⟩ := h
         exact key
 · rw [if_neg h0] at h; cases h
end Go.Proofs.YtpdinahdcedmkaaGreatDoor.ExtP
namespace Go.Proofs.YtpdinahdcedmkaaGreatDoor.ExtP
open Go.Proofs.YtpdinahdcedmkaaGreatDoor.Ext
set_option linter.unusedVariables false
open Go.RowKit Go.Proofs.YtpdinahdcedmkaaGreatDoorW.PrintWords Go.Proofs.YtpdinahdcedmkaaGreatDoor.Spec
theorem otsTab_same (n : Nat) : otsTab n = Spec.otsTab n := by rfl
theorem c_Ots (c : Int) (w : World) (h0 : 0 <= c) :
 Calls Tryz.prog 164 #[.int .u32 c] w fun e w' => e = .returned (.tuple #[(ots c).1.enc, .int .i64 (ots c).2]) /\ Below w.heap.size w w' := by
 have e : param_Ots.f c = some ((ots c).1.code, (ots c).1.shake, (ots c).1.n, (ots c).1.w, (ots c).1.p, (ots c).1.ls, (ots c).2) := by
  unfold param_Ots.f ots
  rw [if_pos h0, otsTab_same]
  cases Spec.otsTab c.toNat <;> rfl
 exact param_Ots.calls _ _ _ _ _ _ _ _ w e
theorem c_hashed (f : Int) (w : World) (h0 : 0 <= f) (h1 : f <= 3) :
 Calls Tryz.prog 137 #[.int .i64 f] w fun e w' => e = .returned (.tuple #[.bool (fShake f), .int .i64 (fBytes f)]) /\ w' = w := by
 obtain rfl | rfl | rfl | rfl : f = 0 \/ f = 1 \/ f = 2 \/ f = 3 := by omega
 all_goals
  go_enter Tryz.func137, Tryz.ntmps137
  go_wp2
  go_ret2
  exact ⟨rfl, rfl⟩
theorem c_height (i : Int) (w : World) (h0 : 0 <= i) (h1 : i <= 2) :
 Calls Tryz.prog 136 #[.int .i64 i] w fun e w' => e = .returned (.int .i64 (height i)) /\ w' = w := by
 obtain rfl | rfl | rfl : i = 0 \/ i = 1 \/ i = 2 := by omega
 all_goals
  go_enter Tryz.func136, Tryz.ntmps136
  go_wp2
  go_ret
  exact ⟨rfl, rfl⟩
/-- what own answers -/
def ownR (c first : Int) : Int × Int × Bool :=
 if c < first then (0, 0, false) else if first + 64 <= c then (0, 0, false) else ((c - first) / 16, (c - first) % 16, decide (1 <= (c - first) % 16) && decide ((c - first) % 16 <= 4))
theorem ownR_no {c first : Int} (h : ¬ (first <= c /\ c < first + 64 /\ 1 <= (c - first) % 16 /\ (c - first) % 16 <= 4)) : ∃ f m : Int, ownR c first = (f, m, false) /\ ownFam c first = none := by
 have e : ownFam c first = none := by unfold ownFam; rw [if_neg h]
 unfold ownR
 by_cases h1 : c < first
 · exact ⟨0, 0, by rw [if_pos h1], e⟩
 · by_cases h2 : first + 64 <= c
   · exact ⟨0, 0, by rw [if_neg h1, if_pos h2], e⟩
   · refine ⟨(c - first) / 16, (c - first) % 16, ?_, e⟩
     rw [if_neg h1, if_neg h2]
     refine Prod.ext rfl (Prod.ext rfl ?_)
     by_cases h3 : 1 <= (c - first) % 16
     · have h4 : ¬ (c - first) % 16 <= 4 := fun h4 => h ⟨by omega, by omega, h3, h4⟩
       simp [h4]
     · simp [h3]
theorem ownR_yes {c first : Int} (h : first <= c /\ c < first + 64 /\ 1 <= (c - first) % 16 /\ (c - first) % 16 <= 4) : ownR c first = ((c - first) / 16, (c - first) % 16, true) /\ ownFam c first = some ((c - first) / 16, (c - first) % 16) := by
 constructor
 · unfold ownR
   rw [if_neg (by omega), if_neg (by omega)]
   simp [h.2.2.1, h.2.2.2]
 · unfold ownFam; rw [if_pos h]
theorem c_own (a0 a1 : Int) (w : World) (g0 : 0 <= a0) (g1 : a0 < 4294967296) (g2 : 0 <= a1) (g3 : a1 + 64 < 4294967296) :
 Calls Tryz.prog 135 #[.int .u32 a0, .int .u32 a1] w fun e w' => e = .returned (.tuple #[.int .i64 (ownR a0 a1).1, .int .i64 (ownR a0 a1).2.1, .bool (ownR a0 a1).2.2]) /\ w' = w := by
 by_cases h1 : a0 < a1
 · have e : ownR a0 a1 = (0, 0, false) := by unfold ownR; rw [if_pos h1]
   rw [e]
   clear e
   go_enter Tryz.func135, Tryz.ntmps135
   go_wp2
   go_ret3
   exact ⟨rfl, rfl⟩
 · by_cases h2 : a1 + 64 <= a0
   · have e : ownR a0 a1 = (0, 0, false) := by unfold ownR; rw [if_neg h1, if_pos h2]
     rw [e]
     clear e
     go_enter Tryz.func135, Tryz.ntmps135
     go_wp2
     go_ret3
     exact ⟨rfl, rfl⟩
   · have e : ownR a0 a1 = ((a0 - a1) / 16, (a0 - a1) % 16, decide (1 <= (a0 - a1) % 16) && decide ((a0 - a1) % 16 <= 4)) := by unfold ownR; rw [if_neg h1, if_neg h2]
     rw [e]
     clear e
     have d0 : 0 <= a0 - a1 := by omega
     have d1 : a0 - a1 < 64 := by omega
     by_cases h3 : 1 <= (a0 - a1) % 16
     · have h3b : decide (1 <= (a0 - a1) % 16) = true := decide_eq_true h3
       rw [h3b, Bool.true_and]
       go_enter Tryz.func135, Tryz.ntmps135
       go_wp2
       go_ret3
       exact ⟨rfl, rfl⟩
     · have h3b : decide (1 <= (a0 - a1) % 16) = false := decide_eq_false h3
       rw [h3b, Bool.false_and]
       go_enter Tryz.func135, Tryz.ntmps135
       go_wp2
       go_ret3
       exact ⟨rfl, rfl⟩
theorem c_Lms (c : Int) (w : World) (g0 : 0 <= c) (g1 : c < 4294967296) :
 Calls Tryz.prog 163 #[.int .u32 c] w fun e w' => e = .returned (.tuple #[(lms c).1.enc, .int .i64 (lms c).2]) /\ Below w.heap.size w w' := by
 by_cases h1 : 5 <= c /\ c <= 24
 · rw [lms_eq (show lmsFam c = some ((c - 5) / 5, 5 * (c % 5 + 1)) by unfold lmsFam; rw [if_pos h1])]
   obtain ⟨h1, h2⟩ := h1
   have Co := fun w => c_own c 4026531840 w g0 g1 (by omega) (by omega)
   have Ch := fun w => c_hashed ((c - 5) / 5) w (by omega) (by omega)
   have co := Lib.hid Co; have ch := Lib.hid Ch; clear Co Ch
   go_enter Tryz.func163, Tryz.ntmps163
   go_wp2_with (first
    | (go_at_call 135; refine (co.out _).mono ?_; rintro e w' ⟨rfl, rfl⟩)
    | (go_at_call 137; refine (ch.out _).mono ?_; rintro e w' ⟨rfl, rfl⟩))
   exact bodyPost_ret (v := .tuple #[.agg #[.int .u32 c, .bool (fShake ((c - 5) / 5)), .int .i64 (fBytes ((c - 5) / 5)), .int .i64 (5 * (c % 5 + 1))], .int .i64 0]) (by simp [results, Tryz.results163, go_sem]) rfl ⟨rfl, by repeat (first | exact Below.refl _ _ | refine Below.setCell ?_ (Nat.le_refl _) _ | refine Below.alloc ?_ (Nat.le_refl _) _)⟩
 · by_cases hb : 4026531840 <= c /\ c < 4026531840 + 64 /\ 1 <= (c - 4026531840) % 16 /\ (c - 4026531840) % 16 <= 4
   · have hy := ownR_yes hb
     rw [lms_eq (show lmsFam c = some ((c - 4026531840) / 16, (c - 4026531840) % 16) by unfold lmsFam; rw [if_neg h1]; exact hy.2)]
     have Co := fun w => c_own c 4026531840 w g0 g1 (by omega) (by omega)
     rw [hy.1] at Co
     have Ch := fun w => c_hashed ((c - 4026531840) / 16) w (by omega) (by omega)
     have co := Lib.hid Co; have ch := Lib.hid Ch; clear Co Ch hy
     have g2 : 24 < c := by omega
     have g3 : 5 <= c := by omega
     generalize (c - 4026531840) / 16 = f at *
     generalize (c - 4026531840) % 16 = m at *
     clear h1 hb
     go_enter Tryz.func163, Tryz.ntmps163
     go_wp2_with (first
      | (go_at_call 135; refine (co.out _).mono ?_; rintro e w' ⟨rfl, rfl⟩)
      | (go_at_call 137; refine (ch.out _).mono ?_; rintro e w' ⟨rfl, rfl⟩))
     exact bodyPost_ret (v := .tuple #[.agg #[.int .u32 c, .bool (fShake f), .int .i64 (fBytes f), .int .i64 m], .int .i64 0]) (by simp [results, Tryz.results163, go_sem]) rfl ⟨rfl, by repeat (first | exact Below.refl _ _ | refine Below.setCell ?_ (Nat.le_refl _) _ | refine Below.alloc ?_ (Nat.le_refl _) _)⟩
   · obtain ⟨f, m, hn1, hn2⟩ := ownR_no hb
     rw [lms_no (show lmsFam c = none by unfold lmsFam; rw [if_neg h1]; exact hn2)]
     have Co := fun w => c_own c 4026531840 w g0 g1 (by omega) (by omega)
     rw [hn1] at Co
     have co := Lib.hid Co; clear Co hn1 hn2 hb
     by_cases h5 : 5 <= c
     · have h6 : 24 < c := by omega
       clear h1
       go_enter Tryz.func163, Tryz.ntmps163
       go_wp2_with (first
        | (go_at_call 135; refine (co.out _).mono ?_; rintro e w' ⟨rfl, rfl⟩))
       exact bodyPost_ret (v := .tuple #[.agg #[.int .u32 0, .bool false, .int .i64 0, .int .i64 0], .int .i64 60]) (by simp [results, Tryz.results163, go_sem]) rfl ⟨rfl, by repeat (first | exact Below.refl _ _ | refine Below.setCell ?_ (Nat.le_refl _) _ | refine Below.alloc ?_ (Nat.le_refl _) _)⟩
     · clear h1
       go_enter Tryz.func163, Tryz.ntmps163
       go_wp2_with (first
        | (go_at_call 135; refine (co.out _).mono ?_; rintro e w' ⟨rfl, rfl⟩))
       exact bodyPost_ret (v := .tuple #[.agg #[.int .u32 0, .bool false, .int .i64 0, .int .i64 0], .int .i64 60]) (by simp [results, Tryz.results163, go_sem]) rfl ⟨rfl, by repeat (first | exact Below.refl _ _ | refine Below.setCell ?_ (Nat.le_refl _) _ | refine Below.alloc ?_ (Nat.le_refl _) _)⟩
theorem fBytes_bd (f : Int) : 24 <= fBytes f /\ fBytes f <= 32 := by unfold fBytes; split <;> omega
theorem c_Xmss (c : Int) (w : World) (g0 : 0 <= c) (g1 : c < 4294967296) :
 Calls Tryz.prog 105 #[.int .u32 c] w fun e w' => e = .returned (.tuple #[(xms c).1.enc, .int .i64 (xms c).2]) /\ Below w.heap.size w w' := by
 by_cases h1 : 1 <= c /\ c <= 3
 · rw [xms_eq (show xmsFam c = some (0, height (c - 1)) by unfold xmsFam; rw [if_pos h1])]
   obtain ⟨h1, h2⟩ := h1
   obtain ⟨b1, b2⟩ := fBytes_bd 0
   have Co := fun w => c_own c 4043309056 w g0 g1 (by omega) (by omega)
   have Ch := fun w => c_hashed 0 w (by omega) (by omega)
   have Ci := fun w => c_height (c - 1) w (by omega) (by omega)
   have co := Lib.hid Co; have ch := Lib.hid Ch; have ci := Lib.hid Ci; clear Co Ch Ci
   go_enter Tryz.func105, Tryz.ntmps105
   go_wp2_with (first
    | (go_at_call 135; refine (co.out _).mono ?_; rintro e w' ⟨rfl, rfl⟩)
    | (go_at_call 137; refine (ch.out _).mono ?_; rintro e w' ⟨rfl, rfl⟩)
    | (go_at_call 136; refine (ci.out _).mono ?_; rintro e w' ⟨rfl, rfl⟩))
   exact bodyPost_ret (v := .tuple #[.agg #[.int .u32 c, .bool (fShake 0), .int .i64 (fBytes 0), .int .i64 (height (c - 1)), .int .i64 (2 * fBytes 0 + 3)], .int .i64 0]) (by simp [results, Tryz.results105, go_sem]) rfl ⟨rfl, by repeat (first | exact Below.refl _ _ | refine Below.setCell ?_ (Nat.le_refl _) _ | refine Below.alloc ?_ (Nat.le_refl _) _)⟩
 · by_cases h2 : 13 <= c /\ c <= 21
   · rw [xms_eq (show xmsFam c = some (1 + (c - 13) / 3, height ((c - 13) % 3)) by unfold xmsFam; rw [if_neg h1, if_pos h2])]
     obtain ⟨h2, h3⟩ := h2
     have h4 : 3 < c := by omega
     have h5 : 1 <= c := by omega
     clear h1
     obtain ⟨b1, b2⟩ := fBytes_bd (1 + (c - 13) / 3)
     have Co := fun w => c_own c 4043309056 w g0 g1 (by omega) (by omega)
     have Ch := fun w => c_hashed (1 + (c - 13) / 3) w (by omega) (by omega)
     have Ci := fun w => c_height ((c - 13) % 3) w (by omega) (by omega)
     have co := Lib.hid Co; have ch := Lib.hid Ch; have ci := Lib.hid Ci; clear Co Ch Ci
     go_enter Tryz.func105, Tryz.ntmps105
     go_wp2_with (first
      | (go_at_call 135; refine (co.out _).mono ?_; rintro e w' ⟨rfl, rfl⟩)
      | (go_at_call 137; refine (ch.out _).mono ?_; rintro e w' ⟨rfl, rfl⟩)
      | (go_at_call 136; refine (ci.out _).mono ?_; rintro e w' ⟨rfl, rfl⟩))
     exact bodyPost_ret (v := .tuple #[.agg #[.int .u32 c, .bool (fShake (1 + (c - 13) / 3)), .int .i64 (fBytes (1 + (c - 13) / 3)), .int .i64 (height ((c - 13) % 3)), .int .i64 (2 * fBytes (1 + (c - 13) / 3) + 3)], .int .i64 0]) (by simp [results, Tryz.results105, go_sem]) rfl ⟨rfl, by repeat (first | exact Below.refl _ _ | refine Below.setCell ?_ (Nat.le_refl _) _ | refine Below.alloc ?_ (Nat.le_refl _) _)⟩
   · have hx : xmsFam c = ownFam c 4043309056 := by unfold xmsFam; rw [if_neg h1, if_neg h2]
     by_cases hb : 4043309056 <= c /\ c < 4043309056 + 64 /\ 1 <= (c - 4043309056) % 16 /\ (c - 4043309056) % 16 <= 4
     · have hy := ownR_yes hb
       rw [xms_eq (hx.trans hy.2)]
       have Co := fun w => c_own c 4043309056 w g0 g1 (by omega) (by omega)
       rw [hy.1] at Co
       have Ch := fun w => c_hashed ((c - 4043309056) / 16) w (by omega) (by omega)
       have g2 : 21 < c := by omega
       have g3 : 13 <= c := by omega
       have g4 : 3 < c := by omega
       have g5 : 1 <= c := by omega
       have co := Lib.hid Co; have ch := Lib.hid Ch; clear Co Ch hy hx
       obtain ⟨b1, b2⟩ := fBytes_bd ((c - 4043309056) / 16)
       generalize (c - 4043309056) / 16 = f at *
       generalize (c - 4043309056) % 16 = m at *
       clear h1 h2 hb
       go_enter Tryz.func105, Tryz.ntmps105
       go_wp2_with (first
        | (go_at_call 135; refine (co.out _).mono ?_; rintro e w' ⟨rfl, rfl⟩)
        | (go_at_call 137; refine (ch.out _).mono ?_; rintro e w' ⟨rfl, rfl⟩))
       exact bodyPost_ret (v := .tuple #[.agg #[.int .u32 c, .bool (fShake f), .int .i64 (fBytes f), .int .i64 m, .int .i64 (2 * fBytes f + 3)], .int .i64 0]) (by simp [results, Tryz.results105, go_sem]) rfl ⟨rfl, by repeat (first | exact Below.refl _ _ | refine Below.setCell ?_ (Nat.le_refl _) _ | refine Below.alloc ?_ (Nat.le_refl _) _)⟩
     · obtain ⟨f, m, hn1, hn2⟩ := ownR_no hb
       rw [xms_no (hx.trans hn2)]
       have Co := fun w => c_own c 4043309056 w g0 g1 (by omega) (by omega)
       rw [hn1] at Co
       have co := Lib.hid Co; clear Co hn1 hn2 hb hx
       by_cases h5 : 1 <= c
       · have h6 : 3 < c := by omega
         clear h1
         by_cases h7 : 13 <= c
         · have h8 : 21 < c := by omega
           clear h2
           go_enter Tryz.func105, Tryz.ntmps105
           go_wp2_with (first
            | (go_at_call 135; refine (co.out _).mono ?_; rintro e w' ⟨rfl, rfl⟩))
           exact bodyPost_ret (v := .tuple #[.agg #[.int .u32 0, .bool false, .int .i64 0, .int .i64 0, .int .i64 0], .int .i64 60]) (by simp [results, Tryz.results105, go_sem]) rfl ⟨rfl, by repeat (first | exact Below.refl _ _ | refine Below.setCell ?_ (Nat.le_refl _) _ | refine Below.alloc ?_ (Nat.le_refl _) _)⟩
         · clear h2
           go_enter Tryz.func105, Tryz.ntmps105
           go_wp2_with (first
            | (go_at_call 135; refine (co.out _).mono ?_; rintro e w' ⟨rfl, rfl⟩))
           exact bodyPost_ret (v := .tuple #[.agg #[.int .u32 0, .bool false, .int .i64 0, .int .i64 0, .int .i64 0], .int .i64 60]) (by simp [results, Tryz.results105, go_sem]) rfl ⟨rfl, by repeat (first | exact Below.refl _ _ | refine Below.setCell ?_ (Nat.le_refl _) _ | refine Below.alloc ?_ (Nat.le_refl _) _)⟩
       · have h7 : ¬ 13 <= c := by omega
         clear h1 h2
         go_enter Tryz.func105, Tryz.ntmps105
         go_wp2_with (first
          | (go_at_call 135; refine (co.out _).mono ?_; rintro e w' ⟨rfl, rfl⟩))
         exact bodyPost_ret (v := .tuple #[.agg #[.int .u32 0, .bool false, .int .i64 0, .int .i64 0, .int .i64 0], .int .i64 60]) (by simp [results, Tryz.results105, go_sem]) rfl ⟨rfl, by repeat (first | exact Below.refl _ _ | refine Below.setCell ?_ (Nat.le_refl _) _ | refine Below.alloc ?_ (Nat.le_refl _) _)⟩
theorem ots_err (c : Int) : (ots c).2 = 0 \/ (ots c).2 = 60 := by unfold ots; split <;> simp
theorem lms_err (c : Int) : (lms c).2 = 0 \/ (lms c).2 = 60 := by unfold lms; split <;> simp
theorem c_known (k c : Int) (w : World) (g0 : 0 <= c) (g1 : c < 4294967296) :
 Calls Tryz.prog 166 #[.int .i64 k, .int .u32 c] w fun e w' => e = .returned (.bool (known k c)) /\ Below w.heap.size w w' := by
 by_cases h1 : k = 1
 · subst h1
   rw [show known 1 c = ((ots c).2 == 0) from rfl]
   have Co := fun w => c_Ots c w g0
   have co := Lib.hid Co; clear Co
   go_enter Tryz.func166, Tryz.ntmps166
   go_wp2_with (first
    | (go_at_call 164; refine (co.out _).mono ?_; rintro e w1 ⟨rfl, hb⟩))
   go_ret
   exact ⟨rfl, hb⟩
 by_cases h2 : k = 2
 · subst h2
   rw [show known 2 c = ((lms c).2 == 0) from rfl]
   have Co := fun w => c_Lms c w g0 g1
   have co := Lib.hid Co; clear Co
   go_enter Tryz.func166, Tryz.ntmps166
   go_wp2_with (first
    | (go_at_call 163; refine (co.out _).mono ?_; rintro e w1 ⟨rfl, hb⟩))
   go_ret
   exact ⟨rfl, hb⟩
 by_cases h3 : k = 3
 · subst h3
   rw [show known 3 c = ((xms c).2 == 0) from rfl]
   have Co := fun w => c_Xmss c w g0 g1
   have co := Lib.hid Co; clear Co
   go_enter Tryz.func166, Tryz.ntmps166
   go_wp2_with (first
    | (go_at_call 105; refine (co.out _).mono ?_; rintro e w1 ⟨rfl, hb⟩))
   go_ret
   exact ⟨rfl, hb⟩
 have hk : known k c = false := by unfold known; rw [if_neg h1, if_neg h2, if_neg h3]
 rw [hk]
 clear hk
 have t1 : (k == 1) = false := beq_eq_false_iff_ne.2 h1
 have t2 : (k == 2) = false := beq_eq_false_iff_ne.2 h2
 have t3 : (k == 3) = false := beq_eq_false_iff_ne.2 h3
 go_enter Tryz.func166, Tryz.ntmps166
 go_wp2
 go_ret
 exact ⟨rfl, Below.refl _ _⟩
theorem c_sum (b : Bool) (s t : ByteArray) (w : World) :
 Calls Tryz.prog 167 #[.bool b, .string s, .string t] w fun e w' => e = .returned (.string (if b = true then s else t)) /\ w' = w := by
 cases b
 all_goals
  go_enter Tryz.func167, Tryz.ntmps167
  go_wp2
  go_ret
  exact ⟨rfl, rfl⟩
theorem c_Decimal (n : Int) (w : World) (h0 : 0 <= n) (h1 : n < 18446744073709551616) :
 Calls Tryz.prog 108 #[.int .u64 n] w fun e w' => e = .returned (.string (strOfNums (decL n.toNat))) /\ Below w.heap.size w w' :=
 octet_Decimal.calls n _ w (by unfold octet_Decimal.f; rw [if_pos h0, if_pos h1])
theorem c_digits (n : Int) (w : World) (h0 : 0 <= n) (h1 : n < 9223372036854775808) :
 Calls Tryz.prog 168 #[.int .i64 n] w fun e w' => e = .returned (.string (strOfNums (decL n.toNat))) /\ Below w.heap.size w w' := by
 have Co := fun w => c_Decimal n w h0 (by omega)
 have co := Lib.hid Co; clear Co
 go_enter Tryz.func168, Tryz.ntmps168
 go_wp2_with (first
  | (go_at_call 108; refine (co.out _).mono ?_; rintro e w1 ⟨rfl, hb⟩))
 go_ret
 exact ⟨rfl, hb⟩
def decS (n : Int) : ByteArray := strOfNums (decL n.toNat)
theorem decL_len (k : Nat) : ∀ n, n < 10 ^ (k + 1) -> (decL n).length <= k + 1 := by
 induction k with
 | zero => intro n h; rw [decL_lt (by simpa using h)]; simp
 | succ k ih =>
   intro n h
   by_cases h10 : n < 10
   · rw [decL_lt h10]; simp
   · rw [decL_ge h10]
     have := ih (n / 10) (by rw [Nat.pow_succ] at h; omega)
     simp; omega
theorem decS_size (n : Int) (h0 : 0 <= n) (h1 : n < 9223372036854775808) : (decS n).size <= 20 := by
 have := decL_len 19 n.toNat (by omega)
 unfold decS strOfNums
 simpa [ByteArray.size] using this
def sumS (b : Bool) : ByteArray := if b = true then ⟨#[83, 72, 65, 75, 69]⟩ else ⟨#[83, 72, 65, 50, 53, 54]⟩
theorem sumS_size (b : Bool) : (sumS b).size <= 6 := by cases b <;> decide
theorem c_digS (n : Int) (w : World) (h0 : 0 <= n) (h1 : n < 9223372036854775808) :
 Calls Tryz.prog 168 #[.int .i64 n] w fun e w' => e = .returned (.string (decS n)) /\ Below w.heap.size w w' := c_digits n w h0 h1
theorem c_sumS (b : Bool) (w : World) :
 Calls Tryz.prog 167 #[.bool b, .string ⟨#[83, 72, 65, 75, 69]⟩, .string ⟨#[83, 72, 65, 50, 53, 54]⟩] w fun e w' => e = .returned (.string (sumS b)) /\ w' = w := c_sum b _ _ w
theorem bcell {W w1 : World} (hb : Below W.heap.size W w1) : (∀ b o, b < W.heap.size -> w1.cell? ⟨b, o, none⟩ = W.cell? ⟨b, o, none⟩) /\ (∀ b o, b < W.heap.size -> w1.frozen? ⟨b, o, none⟩ = W.frozen? ⟨b, o, none⟩) :=
 ⟨fun b o h => hb.cell (p := ⟨b, o, none⟩) h, fun b o h => hb.frozen (p := ⟨b, o, none⟩) h⟩
def sumX (b : Bool) : ByteArray := if b = true then (⟨#[83, 72, 65, 75, 69, 50, 53, 54]⟩ : ByteArray) else (⟨#[83, 72, 65, 50]⟩ : ByteArray)
theorem sumX_size (b : Bool) : (sumX b).size <= 8 := by cases b <;> decide
theorem c_sumX (b : Bool) (w : World) :
 Calls Tryz.prog 167 #[.bool b, .string (⟨#[83, 72, 65, 75, 69, 50, 53, 54]⟩ : ByteArray), .string (⟨#[83, 72, 65, 50]⟩ : ByteArray)] w fun e w' => e = .returned (.string (sumX b)) /\ w' = w := c_sum b _ _ w
def name1S (o : OtsR) : ByteArray := ((((((⟨#[76, 77, 79, 84, 83, 95]⟩ : ByteArray) ++ sumS o.shake) ++ (⟨#[95, 78]⟩ : ByteArray)) ++ decS (o.n)) ++ (⟨#[95, 87]⟩ : ByteArray)) ++ decS (o.w))
theorem name1 (c : Int) (w : World) (g0 : 0 <= c) (g1 : c < 4294967296) (o : OtsR) (ho : ots c = (o, 0)) (n0 : 0 <= o.n) (n1 : o.n < 100000) (w0 : 0 <= o.w) (w1 : o.w < 100000) :
 Calls Tryz.prog 139 #[.int .i64 1, .int .u32 c] w fun e w' => e = .returned (.string (name1S o)) /\ Below w.heap.size w w' := by
 unfold name1S
 have Ck := fun w => c_known 1 c w g0 g1
 rw [show known 1 c = true by unfold known; rw [ho]; rfl] at Ck
 have Co := fun w => c_Ots c w g0
 rw [ho] at Co
 have Cn := fun w => c_digS o.n w n0 (by omega)
 have Cw := fun w => c_digS (o.w) w (by omega) (by omega)
 have Cs := fun w => c_sumS o.shake w
 have z1 := decS_size o.n n0 (by omega)
 have z2 := decS_size (o.w) (by omega) (by omega)
 have z3 := sumS_size o.shake
 obtain ⟨code, shake, nn, ww, p, ls⟩ := o
 simp only [OtsR.enc] at *
 have ck := Lib.hid Ck; have co := Lib.hid Co; have cn := Lib.hid Cn; have cw := Lib.hid Cw; have cs := Lib.hid Cs; clear Ck Co Cn Cw Cs ho
 go_enter Tryz.func139, Tryz.ntmps139
 go_wp2_with (first
  | (go_at_call 166; refine (ck.out _).mono ?_; rintro e v1 ⟨rfl, hb1⟩)
  | (go_at_call 164; refine (co.out _).mono ?_; rintro e v2 ⟨rfl, hb2⟩))
 have f1 : 6 + (sumS shake).size <= 9223372036854775807 := by omega
 have k1 := fun W => run_string_add_sum (P := Tryz.prog) W ((⟨#[76, 77, 79, 84, 83, 95]⟩ : ByteArray)) (sumS shake) f1
 have f2 : ((⟨#[76, 77, 79, 84, 83, 95]⟩ : ByteArray) ++ sumS shake).size + 2 <= 9223372036854775807 := by rw [ByteArray.size_append]; show 6 + _ + 2 <= _; omega
 have k2 := fun W => run_string_add_sum (P := Tryz.prog) W (((⟨#[76, 77, 79, 84, 83, 95]⟩ : ByteArray) ++ sumS shake)) ((⟨#[95, 78]⟩ : ByteArray)) f2
 have f3 : (((⟨#[76, 77, 79, 84, 83, 95]⟩ : ByteArray) ++ sumS shake) ++ (⟨#[95, 78]⟩ : ByteArray)).size + (decS nn).size <= 9223372036854775807 := by rw [ByteArray.size_append, ByteArray.size_append]; show 6 + _ + 2 + _ <= _; omega
 have k3 := fun W => run_string_add_sum (P := Tryz.prog) W ((((⟨#[76, 77, 79, 84, 83, 95]⟩ : ByteArray) ++ sumS shake) ++ (⟨#[95, 78]⟩ : ByteArray))) (decS nn) f3
 have f4 : ((((⟨#[76, 77, 79, 84, 83, 95]⟩ : ByteArray) ++ sumS shake) ++ (⟨#[95, 78]⟩ : ByteArray)) ++ decS nn).size + 2 <= 9223372036854775807 := by rw [ByteArray.size_append, ByteArray.size_append, ByteArray.size_append]; show 6 + _ + 2 + _ + 2 <= _; omega
 have k4 := fun W => run_string_add_sum (P := Tryz.prog) W (((((⟨#[76, 77, 79, 84, 83, 95]⟩ : ByteArray) ++ sumS shake) ++ (⟨#[95, 78]⟩ : ByteArray)) ++ decS nn)) ((⟨#[95, 87]⟩ : ByteArray)) f4
 have f5 : (((((⟨#[76, 77, 79, 84, 83, 95]⟩ : ByteArray) ++ sumS shake) ++ (⟨#[95, 78]⟩ : ByteArray)) ++ decS nn) ++ (⟨#[95, 87]⟩ : ByteArray)).size + (decS ww).size <= 9223372036854775807 := by rw [ByteArray.size_append, ByteArray.size_append, ByteArray.size_append, ByteArray.size_append]; show 6 + _ + 2 + _ + 2 + _ <= _; omega
 have k5 := fun W => run_string_add_sum (P := Tryz.prog) W ((((((⟨#[76, 77, 79, 84, 83, 95]⟩ : ByteArray) ++ sumS shake) ++ (⟨#[95, 78]⟩ : ByteArray)) ++ decS nn) ++ (⟨#[95, 87]⟩ : ByteArray))) (decS ww) f5
 clear f1 f2 f3 f4 f5
 have HB := Zz.mk (below_step hb1 hb2)
 clear hb1 hb2
 go_region_held3 (fun W => W.cell? ⟨v2.heap.size, 1, none⟩ = some (.bool shake) /\ W.cell? ⟨v2.heap.size, 2, none⟩ = some (.int .i64 nn) /\ W.cell? ⟨v2.heap.size, 3, none⟩ = some (.int .i64 ww) /\ Zz (Below w.heap.size w W) /\ v2.heap.size < W.heap.size)
  (first
    | (refine ⟨by go_simp, by go_simp, by go_simp, ⟨(HB.out.alloc HB.out.size _).drew⟩, by simp⟩)
    | (go_split_ands
       have hsz3 := hb3.size
       refine ⟨?_, ?_, ?_, ⟨?_⟩, ?_⟩
       · (rw [(bcell hb3).1 _ _ (by assumption)]; assumption)
       · (rw [(bcell hb3).1 _ _ (by assumption)]; assumption)
       · (rw [(bcell hb3).1 _ _ (by assumption)]; assumption)
       · exact below_step (Zz.out (by assumption)) hb3
       · omega))
  (first
    | (go_simp; go_at_call 167; refine (cs.out _).mono ?_; rintro e v3 ⟨rfl, rfl⟩)
    | (go_simp; go_at_call 168; refine (cn.out _).mono ?_; rintro e v3 ⟨rfl, hb3⟩)
    | (go_simp; go_at_call 168; refine (cw.out _).mono ?_; rintro e v3 ⟨rfl, hb3⟩))
 go_wp2
 go_ret
 go_split_ands
 exact ⟨rfl, Zz.out (by assumption)⟩
def name2S (o : LmsR) : ByteArray := ((((((⟨#[76, 77, 83, 95]⟩ : ByteArray) ++ sumS o.shake) ++ (⟨#[95, 77]⟩ : ByteArray)) ++ decS (o.n)) ++ (⟨#[95, 72]⟩ : ByteArray)) ++ decS (o.h))
theorem name2 (c : Int) (w : World) (g0 : 0 <= c) (g1 : c < 4294967296) (o : LmsR) (ho : lms c = (o, 0)) (n0 : 0 <= o.n) (n1 : o.n < 100000) (w0 : 0 <= o.h) (w1 : o.h < 100000) :
 Calls Tryz.prog 139 #[.int .i64 2, .int .u32 c] w fun e w' => e = .returned (.string (name2S o)) /\ Below w.heap.size w w' := by
 unfold name2S
 have Ck := fun w => c_known 2 c w g0 g1
 rw [show known 2 c = true by unfold known; rw [ho]; rfl] at Ck
 have Co := fun w => c_Lms c w g0 g1
 rw [ho] at Co
 have Cn := fun w => c_digS o.n w n0 (by omega)
 have Cw := fun w => c_digS (o.h) w (by omega) (by omega)
 have Cs := fun w => c_sumS o.shake w
 have z1 := decS_size o.n n0 (by omega)
 have z2 := decS_size (o.h) (by omega) (by omega)
 have z3 := sumS_size o.shake
 obtain ⟨code, shake, nn, hh⟩ := o
 simp only [LmsR.enc] at *
 have ck := Lib.hid Ck; have co := Lib.hid Co; have cn := Lib.hid Cn; have cw := Lib.hid Cw; have cs := Lib.hid Cs; clear Ck Co Cn Cw Cs ho
 go_enter Tryz.func139, Tryz.ntmps139
 go_wp2_with (first
  | (go_at_call 166; refine (ck.out _).mono ?_; rintro e v1 ⟨rfl, hb1⟩)
  | (go_at_call 163; refine (co.out _).mono ?_; rintro e v2 ⟨rfl, hb2⟩))
 have f1 : 4 + (sumS shake).size <= 9223372036854775807 := by omega
 have k1 := fun W => run_string_add_sum (P := Tryz.prog) W ((⟨#[76, 77, 83, 95]⟩ : ByteArray)) (sumS shake) f1
 have f2 : ((⟨#[76, 77, 83, 95]⟩ : ByteArray) ++ sumS shake).size + 2 <= 9223372036854775807 := by rw [ByteArray.size_append]; show 4 + _ + 2 <= _; omega
 have k2 := fun W => run_string_add_sum (P := Tryz.prog) W (((⟨#[76, 77, 83, 95]⟩ : ByteArray) ++ sumS shake)) ((⟨#[95, 77]⟩ : ByteArray)) f2
 have f3 : (((⟨#[76, 77, 83, 95]⟩ : ByteArray) ++ sumS shake) ++ (⟨#[95, 77]⟩ : ByteArray)).size + (decS nn).size <= 9223372036854775807 := by rw [ByteArray.size_append, ByteArray.size_append]; show 4 + _ + 2 + _ <= _; omega
 have k3 := fun W => run_string_add_sum (P := Tryz.prog) W ((((⟨#[76, 77, 83, 95]⟩ : ByteArray) ++ sumS shake) ++ (⟨#[95, 77]⟩ : ByteArray))) (decS nn) f3
 have f4 : ((((⟨#[76, 77, 83, 95]⟩ : ByteArray) ++ sumS shake) ++ (⟨#[95, 77]⟩ : ByteArray)) ++ decS nn).size + 2 <= 9223372036854775807 := by rw [ByteArray.size_append, ByteArray.size_append, ByteArray.size_append]; show 4 + _ + 2 + _ + 2 <= _; omega
 have k4 := fun W => run_string_add_sum (P := Tryz.prog) W (((((⟨#[76, 77, 83, 95]⟩ : ByteArray) ++ sumS shake) ++ (⟨#[95, 77]⟩ : ByteArray)) ++ decS nn)) ((⟨#[95, 72]⟩ : ByteArray)) f4
 have f5 : (((((⟨#[76, 77, 83, 95]⟩ : ByteArray) ++ sumS shake) ++ (⟨#[95, 77]⟩ : ByteArray)) ++ decS nn) ++ (⟨#[95, 72]⟩ : ByteArray)).size + (decS hh).size <= 9223372036854775807 := by rw [ByteArray.size_append, ByteArray.size_append, ByteArray.size_append, ByteArray.size_append]; show 4 + _ + 2 + _ + 2 + _ <= _; omega
 have k5 := fun W => run_string_add_sum (P := Tryz.prog) W ((((((⟨#[76, 77, 83, 95]⟩ : ByteArray) ++ sumS shake) ++ (⟨#[95, 77]⟩ : ByteArray)) ++ decS nn) ++ (⟨#[95, 72]⟩ : ByteArray))) (decS hh) f5
 clear f1 f2 f3 f4 f5
 have HB := Zz.mk (below_step hb1 hb2)
 clear hb1 hb2
 go_region_held3 (fun W => W.cell? ⟨v2.heap.size, 1, none⟩ = some (.bool shake) /\ W.cell? ⟨v2.heap.size, 2, none⟩ = some (.int .i64 nn) /\ W.cell? ⟨v2.heap.size, 3, none⟩ = some (.int .i64 hh) /\ Zz (Below w.heap.size w W) /\ v2.heap.size < W.heap.size)
  (first
    | (refine ⟨by go_simp, by go_simp, by go_simp, ⟨(HB.out.alloc HB.out.size _).drew⟩, by simp⟩)
    | (go_split_ands
       have hsz3 := hb3.size
       refine ⟨?_, ?_, ?_, ⟨?_⟩, ?_⟩
       · (rw [(bcell hb3).1 _ _ (by assumption)]; assumption)
       · (rw [(bcell hb3).1 _ _ (by assumption)]; assumption)
       · (rw [(bcell hb3).1 _ _ (by assumption)]; assumption)
       · exact below_step (Zz.out (by assumption)) hb3
       · omega))
  (first
    | (go_simp; go_at_call 167; refine (cs.out _).mono ?_; rintro e v3 ⟨rfl, rfl⟩)
    | (go_simp; go_at_call 168; refine (cn.out _).mono ?_; rintro e v3 ⟨rfl, hb3⟩)
    | (go_simp; go_at_call 168; refine (cw.out _).mono ?_; rintro e v3 ⟨rfl, hb3⟩))
 go_wp2
 go_ret
 go_split_ands
 exact ⟨rfl, Zz.out (by assumption)⟩
def name3S (o : XmsR) : ByteArray := ((((((⟨#[88, 77, 83, 83, 45]⟩ : ByteArray) ++ sumX o.shake) ++ (⟨#[95]⟩ : ByteArray)) ++ decS (o.h)) ++ (⟨#[95]⟩ : ByteArray)) ++ decS (8 * o.n))
theorem name3 (c : Int) (w : World) (g0 : 0 <= c) (g1 : c < 4294967296) (o : XmsR) (ho : xms c = (o, 0)) (n0 : 0 <= o.h) (n1 : o.h < 100000) (w0 : 0 <= o.n) (w1 : o.n < 100000) :
 Calls Tryz.prog 139 #[.int .i64 3, .int .u32 c] w fun e w' => e = .returned (.string (name3S o)) /\ Below w.heap.size w w' := by
 unfold name3S
 have Ck := fun w => c_known 3 c w g0 g1
 rw [show known 3 c = true by unfold known; rw [ho]; rfl] at Ck
 have Co := fun w => c_Xmss c w g0 g1
 rw [ho] at Co
 have Cn := fun w => c_digS o.h w n0 (by omega)
 have Cw := fun w => c_digS (8 * o.n) w (by omega) (by omega)
 have Cs := fun w => c_sumX o.shake w
 have z1 := decS_size o.h n0 (by omega)
 have z2 := decS_size (8 * o.n) (by omega) (by omega)
 have z3 := sumX_size o.shake
 obtain ⟨code, shake, nn, hh, len⟩ := o
 simp only [XmsR.enc] at *
 have ck := Lib.hid Ck; have co := Lib.hid Co; have cn := Lib.hid Cn; have cw := Lib.hid Cw; have cs := Lib.hid Cs; clear Ck Co Cn Cw Cs ho
 have hw8 : IntKind.i64.wrap (8 * nn) = 8 * nn := IntWalk.i64_in _ (by omega)
 go_enter Tryz.func139, Tryz.ntmps139
 go_wp2_with (first
  | (go_at_call 166; refine (ck.out _).mono ?_; rintro e v1 ⟨rfl, hb1⟩)
  | (go_at_call 105; refine (co.out _).mono ?_; rintro e v2 ⟨rfl, hb2⟩))
 have f1 : 5 + (sumX shake).size <= 9223372036854775807 := by omega
 have k1 := fun W => run_string_add_sum (P := Tryz.prog) W ((⟨#[88, 77, 83, 83, 45]⟩ : ByteArray)) (sumX shake) f1
 have f2 : ((⟨#[88, 77, 83, 83, 45]⟩ : ByteArray) ++ sumX shake).size + 1 <= 9223372036854775807 := by rw [ByteArray.size_append]; show 5 + _ + 1 <= _; omega
 have k2 := fun W => run_string_add_sum (P := Tryz.prog) W (((⟨#[88, 77, 83, 83, 45]⟩ : ByteArray) ++ sumX shake)) ((⟨#[95]⟩ : ByteArray)) f2
 have f3 : (((⟨#[88, 77, 83, 83, 45]⟩ : ByteArray) ++ sumX shake) ++ (⟨#[95]⟩ : ByteArray)).size + (decS hh).size <= 9223372036854775807 := by rw [ByteArray.size_append, ByteArray.size_append]; show 5 + _ + 1 + _ <= _; omega
 have k3 := fun W => run_string_add_sum (P := Tryz.prog) W ((((⟨#[88, 77, 83, 83, 45]⟩ : ByteArray) ++ sumX shake) ++ (⟨#[95]⟩ : ByteArray))) (decS hh) f3
 have f4 : ((((⟨#[88, 77, 83, 83, 45]⟩ : ByteArray) ++ sumX shake) ++ (⟨#[95]⟩ : ByteArray)) ++ decS hh).size + 1 <= 9223372036854775807 := by rw [ByteArray.size_append, ByteArray.size_append, ByteArray.size_append]; show 5 + _ + 1 + _ + 1 <= _; omega
 have k4 := fun W => run_string_add_sum (P := Tryz.prog) W (((((⟨#[88, 77, 83, 83, 45]⟩ : ByteArray) ++ sumX shake) ++ (⟨#[95]⟩ : ByteArray)) ++ decS hh)) ((⟨#[95]⟩ : ByteArray)) f4
 have f5 : (((((⟨#[88, 77, 83, 83, 45]⟩ : ByteArray) ++ sumX shake) ++ (⟨#[95]⟩ : ByteArray)) ++ decS hh) ++ (⟨#[95]⟩ : ByteArray)).size + (decS (8 * nn)).size <= 9223372036854775807 := by rw [ByteArray.size_append, ByteArray.size_append, ByteArray.size_append, ByteArray.size_append]; show 5 + _ + 1 + _ + 1 + _ <= _; omega
 have k5 := fun W => run_string_add_sum (P := Tryz.prog) W ((((((⟨#[88, 77, 83, 83, 45]⟩ : ByteArray) ++ sumX shake) ++ (⟨#[95]⟩ : ByteArray)) ++ decS hh) ++ (⟨#[95]⟩ : ByteArray))) (decS (8 * nn)) f5
 clear f1 f2 f3 f4 f5
 have HB := Zz.mk (below_step hb1 hb2)
 clear hb1 hb2
 go_region_held3 (fun W => W.cell? ⟨v2.heap.size, 1, none⟩ = some (.bool shake) /\ W.cell? ⟨v2.heap.size, 3, none⟩ = some (.int .i64 hh) /\ W.cell? ⟨v2.heap.size, 2, none⟩ = some (.int .i64 nn) /\ Zz (Below w.heap.size w W) /\ v2.heap.size < W.heap.size)
  (first
    | (refine ⟨by go_simp, by go_simp, by go_simp, ⟨(HB.out.alloc HB.out.size _).drew⟩, by simp⟩)
    | (go_split_ands
       have hsz3 := hb3.size
       refine ⟨?_, ?_, ?_, ⟨?_⟩, ?_⟩
       · (rw [(bcell hb3).1 _ _ (by assumption)]; assumption)
       · (rw [(bcell hb3).1 _ _ (by assumption)]; assumption)
       · (rw [(bcell hb3).1 _ _ (by assumption)]; assumption)
       · exact below_step (Zz.out (by assumption)) hb3
       · omega))
  (first
    | (go_simp; go_at_call 167; refine (cs.out _).mono ?_; rintro e v3 ⟨rfl, rfl⟩)
    | (go_simp; go_at_call 168; refine (cn.out _).mono ?_; rintro e v3 ⟨rfl, hb3⟩)
    | (go_simp; go_at_call 168; refine (cw.out _).mono ?_; rintro e v3 ⟨rfl, hb3⟩))
 go_wp2
 go_ret
 go_split_ands
 exact ⟨rfl, Zz.out (by assumption)⟩
theorem ots_bd (c : Int) : 0 <= (ots c).1.n /\ (ots c).1.n < 100000 /\ 0 <= (ots c).1.w /\ (ots c).1.w < 100000 := by
 unfold ots
 split
 · rename_i h
   unfold Spec.otsTab at h
   split at h <;> simp only [Option.some.injEq, Prod.mk.injEq, reduceCtorEq] at h <;> (obtain ⟨rfl, rfl, rfl, rfl, rfl⟩ := h; simp only; omega)
 · decide
theorem ownFam_bd {c f h x : Int} (e : ownFam c x = some (f, h)) : 0 <= h /\ h <= 4 := by
 unfold ownFam at e
 split at e
 · rename_i hh; cases e; omega
 · cases e
theorem lms_bd (c : Int) : 0 <= (lms c).1.n /\ (lms c).1.n < 100000 /\ 0 <= (lms c).1.h /\ (lms c).1.h < 100000 := by
 unfold lms
 split
 · rename_i f h e
   have := fBytes_bd f
   unfold lmsFam at e
   split at e
   · cases e; simp only; omega
   · have := ownFam_bd e; simp only; omega
 · decide
theorem height_bd (i : Int) : 0 <= height i /\ height i <= 20 := by
 unfold height
 split
 · omega
 · split <;> omega
theorem xms_bd (c : Int) : 0 <= (xms c).1.h /\ (xms c).1.h < 100000 /\ 0 <= (xms c).1.n /\ (xms c).1.n < 100000 := by
 unfold xms
 split
 · rename_i f h e
   have := fBytes_bd f
   unfold xmsFam at e
   split at e
   · cases e; have := height_bd (c - 1); simp only; omega
   · split at e
     · cases e; have := height_bd ((c - 13) % 3); simp only; omega
     · have := ownFam_bd e; simp only; omega
 · decide
def nameS (k c : Int) : ByteArray :=
 if known k c = true then (if k = 1 then name1S (ots c).1 else if k = 2 then name2S (lms c).1 else name3S (xms c).1) else ⟨#[]⟩
theorem name0 (k c : Int) (w : World) (g0 : 0 <= c) (g1 : c < 4294967296) (hk : known k c = false) :
 Calls Tryz.prog 139 #[.int .i64 k, .int .u32 c] w fun e w' => e = .returned (.string ⟨#[]⟩) /\ Below w.heap.size w w' := by
 have Ck := fun w => c_known k c w g0 g1
 rw [hk] at Ck
 have ck := Lib.hid Ck; clear Ck hk
 go_enter Tryz.func139, Tryz.ntmps139
 go_wp2_with (first
  | (go_at_call 166; refine (ck.out _).mono ?_; rintro e v1 ⟨rfl, hb1⟩))
 go_ret
 exact ⟨rfl, hb1⟩
theorem c_Name (k c : Int) (w : World) (g0 : 0 <= c) (g1 : c < 4294967296) :
 Calls Tryz.prog 139 #[.int .i64 k, .int .u32 c] w fun e w' => e = .returned (.string (nameS k c)) /\ Below w.heap.size w w' := by
 unfold nameS
 cases hk : known k c with
 | false => rw [if_neg (by decide)]; exact name0 k c w g0 g1 hk
 | true =>
   rw [if_pos rfl]
   by_cases h1 : k = 1
   · subst h1
     rw [if_pos rfl]
     have hz : (ots c).2 = 0 := by simpa [known] using hk
     have := ots_bd c
     exact name1 c w g0 g1 _ (Prod.ext rfl hz) this.1 this.2.1 this.2.2.1 this.2.2.2
   · rw [if_neg h1]
     by_cases h2 : k = 2
     · subst h2
       rw [if_pos rfl]
       have hz : (lms c).2 = 0 := by simpa [known] using hk
       have := lms_bd c
       exact name2 c w g0 g1 _ (Prod.ext rfl hz) this.1 this.2.1 this.2.2.1 this.2.2.2
     · rw [if_neg h2]
       by_cases h3 : k = 3
       · subst h3
         have hz : (xms c).2 = 0 := by simpa [known] using hk
         have := xms_bd c
         exact name3 c w g0 g1 _ (Prod.ext rfl hz) this.1 this.2.1 this.2.2.1 this.2.2.2
       · unfold known at hk
         rw [if_neg h1, if_neg h2, if_neg h3] at hk
         cases hk
end Go.Proofs.YtpdinahdcedmkaaGreatDoor.ExtP
namespace Go.Proofs.YtpdinahdcedmkaaGreatDoor.ExtP
open Go.Proofs.YtpdinahdcedmkaaGreatDoor.Ext
set_option linter.unusedVariables false
open Go.RowKit Go.Proofs.YtpdinahdcedmkaaGreatDoorW.PrintWords Go.Proofs.YtpdinahdcedmkaaGreatDoorW.PrintLast Go.Proofs.YtpdinahdcedmkaaGreatDoor.Spec
theorem eqOts (d : Nat) (w : World) (x0 y0 : Int) (x1 y1 : Bool) (x2 y2 : Int) (x3 y3 : Int) (x4 y4 : Int) (x5 y5 : Int) :
 (Op.equalIn (d + 2) 140 (.agg #[.int .u32 x0, .bool x1, .int .i64 x2, .int .i64 x3, .int .i64 x4, .int .i64 x5]) (.agg #[.int .u32 y0, .bool y1, .int .i64 y2, .int .i64 y3, .int .i64 y4, .int .i64 y5])).run Tryz.prog w = .ok (x0 == y0 && (x1 == y1 && (x2 == y2 && (x3 == y3 && (x4 == y4 && (x5 == y5)))))) w := by
 refine eqA_of Tryz.underlying140 (by kernel_rfl) ?_
 refine eqf_cons (by rfl) (by go_simp; rfl) (by go_simp; rfl) (by go_simp) ?_
 refine eqf_cons (by rfl) (by go_simp; rfl) (by go_simp; rfl) (by go_simp) ?_
 refine eqf_cons (by rfl) (by go_simp; rfl) (by go_simp; rfl) (by go_simp) ?_
 refine eqf_cons (by rfl) (by go_simp; rfl) (by go_simp; rfl) (by go_simp) ?_
 refine eqf_cons (by rfl) (by go_simp; rfl) (by go_simp; rfl) (by go_simp) ?_
 exact eqf_last (by rfl) (by go_simp; rfl) (by go_simp; rfl) (by go_simp)
theorem eqLms (d : Nat) (w : World) (x0 y0 : Int) (x1 y1 : Bool) (x2 y2 : Int) (x3 y3 : Int) :
 (Op.equalIn (d + 2) 144 (.agg #[.int .u32 x0, .bool x1, .int .i64 x2, .int .i64 x3]) (.agg #[.int .u32 y0, .bool y1, .int .i64 y2, .int .i64 y3])).run Tryz.prog w = .ok (x0 == y0 && (x1 == y1 && (x2 == y2 && (x3 == y3)))) w := by
 refine eqA_of Tryz.underlying144 (by kernel_rfl) ?_
 refine eqf_cons (by rfl) (by go_simp; rfl) (by go_simp; rfl) (by go_simp) ?_
 refine eqf_cons (by rfl) (by go_simp; rfl) (by go_simp; rfl) (by go_simp) ?_
 refine eqf_cons (by rfl) (by go_simp; rfl) (by go_simp; rfl) (by go_simp) ?_
 exact eqf_last (by rfl) (by go_simp; rfl) (by go_simp; rfl) (by go_simp)
theorem eqXms (d : Nat) (w : World) (x0 y0 : Int) (x1 y1 : Bool) (x2 y2 : Int) (x3 y3 : Int) (x4 y4 : Int) :
 (Op.equalIn (d + 2) 128 (.agg #[.int .u32 x0, .bool x1, .int .i64 x2, .int .i64 x3, .int .i64 x4]) (.agg #[.int .u32 y0, .bool y1, .int .i64 y2, .int .i64 y3, .int .i64 y4])).run Tryz.prog w = .ok (x0 == y0 && (x1 == y1 && (x2 == y2 && (x3 == y3 && (x4 == y4))))) w := by
 refine eqA_of Tryz.underlying128 (by kernel_rfl) ?_
 refine eqf_cons (by rfl) (by go_simp; rfl) (by go_simp; rfl) (by go_simp) ?_
 refine eqf_cons (by rfl) (by go_simp; rfl) (by go_simp; rfl) (by go_simp) ?_
 refine eqf_cons (by rfl) (by go_simp; rfl) (by go_simp; rfl) (by go_simp) ?_
 refine eqf_cons (by rfl) (by go_simp; rfl) (by go_simp; rfl) (by go_simp) ?_
 exact eqf_last (by rfl) (by go_simp; rfl) (by go_simp; rfl) (by go_simp)
attribute [local go_sem high] eqOts eqLms eqXms
def eqO (x o : OtsR) : Bool := x.code == o.code && (x.shake == o.shake && (x.n == o.n && (x.w == o.w && (x.p == o.p && (x.ls == o.ls)))))
def eqL (x o : LmsR) : Bool := x.code == o.code && (x.shake == o.shake && (x.n == o.n && (x.h == o.h)))
def isOtsS (o : OtsR) : Bool := if (ots o.code).2 = 0 then eqO (ots o.code).1 o else false
def isLmsS (o : LmsR) : Bool := if (lms o.code).2 = 0 then eqL (lms o.code).1 o else false
def fitS (l : LmsR) (o : OtsR) : Bool := if isLmsS l = true then if isOtsS o = true then if (l.shake == o.shake) = true then l.n == o.n else false else false else false
theorem below_box {w v : World} {o : Obj} (h : Below (w.alloc o).heap.size (w.alloc o) v) : Below w.heap.size w v := ((Below.refl _ _).alloc (Nat.le_refl _) _).trans (h.mono (by simp))
theorem c_isOts (o : OtsR) (w : World) (g0 : 0 <= o.code) (g1 : o.code < 4294967296) :
 Calls Tryz.prog 175 #[o.enc] w fun e w' => e = .returned (.bool (isOtsS o)) /\ Below w.heap.size w w' := by
 have Co := fun w => c_Ots o.code w g0
 unfold isOtsS
 unfold eqO
 generalize hx : ots o.code = x at *
 obtain ⟨⟨a0, a1, a2, a3, a4, a5⟩, er⟩ := x
 have he : er = 0 \/ er = 60 := by have := ots_err o.code; rw [hx] at this; exact this
 obtain ⟨b0, b1, b2, b3, b4, b5⟩ := o
 simp only [OtsR.enc] at *
 have co := Lib.hid Co; clear Co hx
 rcases he with rfl | rfl
 · rw [if_pos rfl]
   go_enter Tryz.func175, Tryz.ntmps175
   go_wp2_with (first
    | (go_at_call 164; refine (co.out _).mono ?_; rintro e v1 ⟨rfl, hb1⟩; obtain ⟨hc, hf⟩ := bcell hb1; have hz : w.heap.size < v1.heap.size := by (have hz0 := hb1.size; simp at hz0; omega)))
   go_ret
   exact ⟨rfl, (below_box hb1).alloc (below_box hb1).size _⟩
 · rw [if_neg (by decide)]
   go_enter Tryz.func175, Tryz.ntmps175
   go_wp2_with (first
    | (go_at_call 164; refine (co.out _).mono ?_; rintro e v1 ⟨rfl, hb1⟩; obtain ⟨hc, hf⟩ := bcell hb1; have hz : w.heap.size < v1.heap.size := by (have hz0 := hb1.size; simp at hz0; omega)))
   go_ret
   exact ⟨rfl, (below_box hb1).alloc (below_box hb1).size _⟩
theorem c_isLms (o : LmsR) (w : World) (g0 : 0 <= o.code) (g1 : o.code < 4294967296) :
 Calls Tryz.prog 174 #[o.enc] w fun e w' => e = .returned (.bool (isLmsS o)) /\ Below w.heap.size w w' := by
 have Co := fun w => c_Lms o.code w g0 g1
 unfold isLmsS
 unfold eqL
 generalize hx : lms o.code = x at *
 obtain ⟨⟨a0, a1, a2, a3⟩, er⟩ := x
 have he : er = 0 \/ er = 60 := by have := lms_err o.code; rw [hx] at this; exact this
 obtain ⟨b0, b1, b2, b3⟩ := o
 simp only [LmsR.enc] at *
 have co := Lib.hid Co; clear Co hx
 rcases he with rfl | rfl
 · rw [if_pos rfl]
   go_enter Tryz.func174, Tryz.ntmps174
   go_wp2_with (first
    | (go_at_call 163; refine (co.out _).mono ?_; rintro e v1 ⟨rfl, hb1⟩; obtain ⟨hc, hf⟩ := bcell hb1; have hz : w.heap.size < v1.heap.size := by (have hz0 := hb1.size; simp at hz0; omega)))
   go_ret
   exact ⟨rfl, (below_box hb1).alloc (below_box hb1).size _⟩
 · rw [if_neg (by decide)]
   go_enter Tryz.func174, Tryz.ntmps174
   go_wp2_with (first
    | (go_at_call 163; refine (co.out _).mono ?_; rintro e v1 ⟨rfl, hb1⟩; obtain ⟨hc, hf⟩ := bcell hb1; have hz : w.heap.size < v1.heap.size := by (have hz0 := hb1.size; simp at hz0; omega)))
   go_ret
   exact ⟨rfl, (below_box hb1).alloc (below_box hb1).size _⟩
theorem c_Fit (l : LmsR) (o : OtsR) (w : World) (l0 : 0 <= l.code) (l1 : l.code < 4294967296) (g0 : 0 <= o.code) (g1 : o.code < 4294967296) :
 Calls Tryz.prog 165 #[l.enc, o.enc] w fun e w' => e = .returned (.bool (fitS l o)) /\ Below w.heap.size w w' := by
 have Cl := fun w => c_isLms l w l0 l1
 have Co := fun w => c_isOts o w g0 g1
 unfold fitS
 obtain ⟨a0, a1, a2, a3⟩ := l
 obtain ⟨b0, b1, b2, b3, b4, b5⟩ := o
 generalize isLmsS _ = p at *
 generalize isOtsS _ = q at *
 simp only [LmsR.enc, OtsR.enc] at *
 have cl := Lib.hid Cl; have co := Lib.hid Co; clear Cl Co
 cases p with
 | false =>
   rw [if_neg (by decide)]
   go_enter Tryz.func165, Tryz.ntmps165
   go_wp2_with (first
    | (go_at_call 174; refine (cl.out _).mono ?_; rintro e v1 ⟨rfl, hb1⟩; obtain ⟨hc, hf⟩ := bcell hb1; have hz : w.heap.size + 1 < v1.heap.size := (by (have hz0 := hb1.size; simp at hz0; omega)); have hzA : w.heap.size < v1.heap.size := by omega)
    | (go_at_call 175; refine (co.out _).mono ?_; rintro e v2 ⟨rfl, hb2⟩; obtain ⟨hc2, hf2⟩ := bcell hb2; have hz2 : w.heap.size + 1 < v2.heap.size := by (have hz0 := hb2.size; omega)))
   go_ret
   exact ⟨rfl, below_box (below_box hb1)⟩
 | true =>
   rw [if_pos rfl]
   cases q with
   | false =>
     rw [if_neg (by decide)]
     go_enter Tryz.func165, Tryz.ntmps165
     go_wp2_with (first
      | (go_at_call 174; refine (cl.out _).mono ?_; rintro e v1 ⟨rfl, hb1⟩; obtain ⟨hc, hf⟩ := bcell hb1; have hz : w.heap.size + 1 < v1.heap.size := (by (have hz0 := hb1.size; simp at hz0; omega)); have hzA : w.heap.size < v1.heap.size := by omega)
      | (go_at_call 175; refine (co.out _).mono ?_; rintro e v2 ⟨rfl, hb2⟩; obtain ⟨hc2, hf2⟩ := bcell hb2; have hz2 : w.heap.size + 1 < v2.heap.size := by (have hz0 := hb2.size; omega)))
     go_ret
     exact ⟨rfl, below_step (below_box (below_box hb1)) hb2⟩
   | true =>
     rw [if_pos rfl]
     cases t : (a1 == b1) with
     | false =>
       rw [if_neg (by decide)]
       go_enter Tryz.func165, Tryz.ntmps165
       go_wp2_with (first
        | (go_at_call 174; refine (cl.out _).mono ?_; rintro e v1 ⟨rfl, hb1⟩; obtain ⟨hc, hf⟩ := bcell hb1; have hz : w.heap.size + 1 < v1.heap.size := (by (have hz0 := hb1.size; simp at hz0; omega)); have hzA : w.heap.size < v1.heap.size := by omega)
        | (go_at_call 175; refine (co.out _).mono ?_; rintro e v2 ⟨rfl, hb2⟩; obtain ⟨hc2, hf2⟩ := bcell hb2; have hz2 : w.heap.size + 1 < v2.heap.size := by (have hz0 := hb2.size; omega)))
       go_ret
       exact ⟨rfl, below_step (below_box (below_box hb1)) hb2⟩
     | true =>
       rw [if_pos rfl]
       go_enter Tryz.func165, Tryz.ntmps165
       go_wp2_with (first
        | (go_at_call 174; refine (cl.out _).mono ?_; rintro e v1 ⟨rfl, hb1⟩; obtain ⟨hc, hf⟩ := bcell hb1; have hz : w.heap.size + 1 < v1.heap.size := (by (have hz0 := hb1.size; simp at hz0; omega)); have hzA : w.heap.size < v1.heap.size := by omega)
        | (go_at_call 175; refine (co.out _).mono ?_; rintro e v2 ⟨rfl, hb2⟩; obtain ⟨hc2, hf2⟩ := bcell hb2; have hz2 : w.heap.size + 1 < v2.heap.size := by (have hz0 := hb2.size; omega)))
       go_ret
       exact ⟨rfl, below_step (below_box (below_box hb1)) hb2⟩
end Go.Proofs.YtpdinahdcedmkaaGreatDoor.ExtP
namespace Go.Proofs.YtpdinahdcedmkaaGreatDoor.ExtP
open Go.Proofs.YtpdinahdcedmkaaGreatDoor.Ext
set_option linter.unusedVariables false
set_option linter.unusedSimpArgs false
open Go.RowKit Go.Proofs.YtpdinahdcedmkaaGreatDoorW.PrintWords Go.Proofs.YtpdinahdcedmkaaGreatDoor.Spec
theorem r_bytes (f : Int) (w : World) (h0 : 0 <= f) (h1 : f <= 3) :
 Calls Tryz.prog 144 #[.int .i64 f] w fun e w' => e = .returned (.int .i64 (fBytes f)) /\ w' = w := by
 obtain rfl | rfl | rfl | rfl : f = 0 \/ f = 1 \/ f = 2 \/ f = 3 := by omega
 all_goals
  go_enter Tryz.func144, Tryz.ntmps144
  go_wp2
  go_ret
  exact ⟨rfl, rfl⟩
theorem r_power (n : Nat) (w : World) (hn : n <= 40) :
 Calls Tryz.prog 145 #[.int .i64 n] w fun e w' => e = .returned (.int .i64 ((2 ^ n : Nat) : Int)) /\ w' = w := by
 go_enter Tryz.func145, Tryz.ntmps145
 go_wp2
 go_loop [3, 5] (fun p i => ∃ (k m : Nat), k <= n /\ i = .int .i64 k /\ p = .int .i64 m /\ Zz (m = 2 ^ k)) (fun _ i => n - (intOf i).toNat)
 case atStart => exact ⟨0, 1, by omega, rfl, rfl, ⟨rfl⟩⟩
 case round =>
  obtain ⟨k, m, hk, rfl, rfl, hm⟩ := hrel
  have hb : m <= 1099511627776 := by
   rw [hm.out]
   have : 2 ^ k <= 2 ^ 40 := Nat.pow_le_pow_right (by omega) (by omega)
   omega
  by_cases hlt : k < n
  · go_wp2
    go_round
    case rel => exact ⟨k + 1, m * 2, by omega, by go_num, by go_num, ⟨by rw [hm.out, Nat.pow_succ]⟩⟩
    case measure => simp [intOf]; omega
  · have hm2 : Zz (m = 2 ^ n) := ⟨by rw [hm.out, show k = n by omega]⟩
    go_wp2
    go_ret
    exact ⟨by rw [hm2.out]; simp, rfl⟩
theorem r_bits (n b : Nat) (w : World) (hn : n < 1099511627776) (h0 : n < 2 ^ b) (h1 : ∀ k, k < b -> 2 ^ k <= n) (hb : b <= 40) :
 Calls Tryz.prog 147 #[.int .i64 n] w fun e w' => e = .returned (.int .i64 (b : Int)) /\ w' = w := by
 have H0 := Zz.mk h0
 have H1 := Zz.mk h1
 clear h0 h1
 go_enter Tryz.func147, Tryz.ntmps147
 go_wp2
 go_loop [3] (fun i => ∃ k : Nat, k <= b /\ i = .int .i64 k) (fun i => b - (intOf i).toNat)
 case atStart => exact ⟨0, by omega, rfl⟩
 case round =>
  obtain ⟨k, hk, rfl⟩ := hrel
  by_cases hlt : k < b
  · have hp := H1.out k hlt
    obtain ⟨p, hpe⟩ : ∃ p : Nat, 2 ^ k = p := ⟨_, rfl⟩
    have Cp := fun w => r_power k w (by omega)
    rw [hpe] at Cp hp
    have cp := Lib.hid Cp; clear Cp hpe
    have hp2 : (p : Int) <= n := by omega
    go_wp2_with (first
     | (go_at_call 145; refine (cp.out _).mono ?_; rintro e w' ⟨rfl, rfl⟩))
    go_round
    case rel => exact ⟨k + 1, by omega, by go_num⟩
    case measure => simp [intOf]; omega
  · obtain rfl : k = b := by omega
    have hp := H0.out
    obtain ⟨p, hpe⟩ : ∃ p : Nat, 2 ^ k = p := ⟨_, rfl⟩
    have Cp := fun w => r_power k w (by omega)
    rw [hpe] at Cp hp
    have cp := Lib.hid Cp; clear Cp hpe
    have hp2 : (n : Int) < p := by omega
    go_wp2_with (first
     | (go_at_call 145; refine (cp.out _).mono ?_; rintro e w' ⟨rfl, rfl⟩))
    go_ret
    exact ⟨rfl, rfl⟩
theorem r_up (a b : Int) (w : World) (h0 : 0 <= a) (h1 : a <= 1000) (h2 : 1 <= b) (h3 : b <= 100) :
 Calls Tryz.prog 146 #[.int .i64 a, .int .i64 b] w fun e w' => e = .returned (.int .i64 ((a + b - 1) / b)) /\ w' = w := by
 have hd : 0 <= (a + b - 1) / b := Int.ediv_nonneg (by omega) (by omega)
 have hd2 : (a + b - 1) / b <= a + b - 1 := Int.ediv_le_self _ (by omega)
 have hne : ¬ b = 0 := by omega
 go_enter Tryz.func146, Tryz.ntmps146
 go_wp2
 go_ret
 exact ⟨rfl, rfl⟩
theorem r_h5 (f n ei x wi y ti bi v : Int) (e w2 top b : Nat) (h : (0 <= f /\ f <= 3 /\ fBytes f = n /\ e <= 40 /\ (e : Int) = ei /\ ((2 ^ e : Nat) : Int) = x /\ w2 <= 40 /\ (w2 : Int) = wi /\ ((2 ^ w2 : Nat) : Int) = y /\ (top : Int) = ti /\ (b : Int) = bi) /\ top < 1099511627776 /\ top < 2 ^ b /\ (∀ k, k < b -> 2 ^ k <= top) /\ b <= 40 /\ 0 <= bi /\ bi <= 1000 /\ 1 <= x /\ x <= 100 /\ (bi + x - 1) / x = v) :
 Hid (∀ w, Calls Tryz.prog 144 #[.int .i64 f] w fun e w' => e = .returned (.int .i64 n) /\ w' = w) /\ Hid (∀ w, Calls Tryz.prog 145 #[.int .i64 ei] w fun e w' => e = .returned (.int .i64 x) /\ w' = w) /\ Hid (∀ w, Calls Tryz.prog 145 #[.int .i64 wi] w fun e w' => e = .returned (.int .i64 y) /\ w' = w) /\ Hid (∀ w, Calls Tryz.prog 147 #[.int .i64 ti] w fun e w' => e = .returned (.int .i64 bi) /\ w' = w) /\ Hid (∀ w, Calls Tryz.prog 146 #[.int .i64 bi, .int .i64 x] w fun e w' => e = .returned (.int .i64 v) /\ w' = w) := by
 obtain ⟨⟨f0, f3, rfl, he, rfl, rfl, hw, rfl, rfl, rfl, rfl⟩, t1, t2, t3, hb, b0, b1, x0, x1, rfl⟩ := h
 exact ⟨Lib.hid fun w => r_bytes f w f0 f3, Lib.hid fun w => r_power e w he, Lib.hid fun w => r_power w2 w hw, Lib.hid fun w => r_bits top b w t1 t2 t3 hb, Lib.hid fun w => r_up _ _ w b0 b1 x0 x1⟩
theorem r_otsA (c : Int) (w : World) (h1 : 1 <= c) (h2 : c <= 16) : Calls Tryz.prog 117 #[.int .u32 c] w fun e w' => e = .returned (.tuple #[(ots c).1.enc, .int .i64 (ots c).2]) /\ Below w.heap.size w w' := by
 obtain rfl | rfl | rfl | rfl | rfl | rfl | rfl | rfl | rfl | rfl | rfl | rfl | rfl | rfl | rfl | rfl : c = 1 \/ c = 2 \/ c = 3 \/ c = 4 \/ c = 5 \/ c = 6 \/ c = 7 \/ c = 8 \/ c = 9 \/ c = 10 \/ c = 11 \/ c = 12 \/ c = 13 \/ c = 14 \/ c = 15 \/ c = 16 := by omega
 all_goals
  clear h1 h2
  first
  | (with_reducible show Calls _ _ #[.int .u32 1] _ _
     obtain ⟨V, hV⟩ : ∃ V : Value, V = .tuple #[.agg #[.int .u32 1, .bool false, .int .i64 32, .int .i64 1, .int .i64 265, .int .i64 7], .int .i64 0] := ⟨_, rfl⟩
     have F := r_h5 0 32 0 1 1 2 256 9 9 0 1 256 9 (by decide))
  | (with_reducible show Calls _ _ #[.int .u32 2] _ _
     obtain ⟨V, hV⟩ : ∃ V : Value, V = .tuple #[.agg #[.int .u32 2, .bool false, .int .i64 32, .int .i64 2, .int .i64 133, .int .i64 6], .int .i64 0] := ⟨_, rfl⟩
     have F := r_h5 0 32 1 2 2 4 384 9 5 1 2 384 9 (by decide))
  | (with_reducible show Calls _ _ #[.int .u32 3] _ _
     obtain ⟨V, hV⟩ : ∃ V : Value, V = .tuple #[.agg #[.int .u32 3, .bool false, .int .i64 32, .int .i64 4, .int .i64 67, .int .i64 4], .int .i64 0] := ⟨_, rfl⟩
     have F := r_h5 0 32 2 4 4 16 960 10 3 2 4 960 10 (by decide))
  | (with_reducible show Calls _ _ #[.int .u32 4] _ _
     obtain ⟨V, hV⟩ : ∃ V : Value, V = .tuple #[.agg #[.int .u32 4, .bool false, .int .i64 32, .int .i64 8, .int .i64 34, .int .i64 0], .int .i64 0] := ⟨_, rfl⟩
     have F := r_h5 0 32 3 8 8 256 8160 13 2 3 8 8160 13 (by decide))
  | (with_reducible show Calls _ _ #[.int .u32 5] _ _
     obtain ⟨V, hV⟩ : ∃ V : Value, V = .tuple #[.agg #[.int .u32 5, .bool false, .int .i64 24, .int .i64 1, .int .i64 200, .int .i64 8], .int .i64 0] := ⟨_, rfl⟩
     have F := r_h5 1 24 0 1 1 2 192 8 8 0 1 192 8 (by decide))
  | (with_reducible show Calls _ _ #[.int .u32 6] _ _
     obtain ⟨V, hV⟩ : ∃ V : Value, V = .tuple #[.agg #[.int .u32 6, .bool false, .int .i64 24, .int .i64 2, .int .i64 101, .int .i64 6], .int .i64 0] := ⟨_, rfl⟩
     have F := r_h5 1 24 1 2 2 4 288 9 5 1 2 288 9 (by decide))
  | (with_reducible show Calls _ _ #[.int .u32 7] _ _
     obtain ⟨V, hV⟩ : ∃ V : Value, V = .tuple #[.agg #[.int .u32 7, .bool false, .int .i64 24, .int .i64 4, .int .i64 51, .int .i64 4], .int .i64 0] := ⟨_, rfl⟩
     have F := r_h5 1 24 2 4 4 16 720 10 3 2 4 720 10 (by decide))
  | (with_reducible show Calls _ _ #[.int .u32 8] _ _
     obtain ⟨V, hV⟩ : ∃ V : Value, V = .tuple #[.agg #[.int .u32 8, .bool false, .int .i64 24, .int .i64 8, .int .i64 26, .int .i64 0], .int .i64 0] := ⟨_, rfl⟩
     have F := r_h5 1 24 3 8 8 256 6120 13 2 3 8 6120 13 (by decide))
  | (with_reducible show Calls _ _ #[.int .u32 9] _ _
     obtain ⟨V, hV⟩ : ∃ V : Value, V = .tuple #[.agg #[.int .u32 9, .bool true, .int .i64 32, .int .i64 1, .int .i64 265, .int .i64 7], .int .i64 0] := ⟨_, rfl⟩
     have F := r_h5 2 32 0 1 1 2 256 9 9 0 1 256 9 (by decide))
  | (with_reducible show Calls _ _ #[.int .u32 10] _ _
     obtain ⟨V, hV⟩ : ∃ V : Value, V = .tuple #[.agg #[.int .u32 10, .bool true, .int .i64 32, .int .i64 2, .int .i64 133, .int .i64 6], .int .i64 0] := ⟨_, rfl⟩
     have F := r_h5 2 32 1 2 2 4 384 9 5 1 2 384 9 (by decide))
  | (with_reducible show Calls _ _ #[.int .u32 11] _ _
     obtain ⟨V, hV⟩ : ∃ V : Value, V = .tuple #[.agg #[.int .u32 11, .bool true, .int .i64 32, .int .i64 4, .int .i64 67, .int .i64 4], .int .i64 0] := ⟨_, rfl⟩
     have F := r_h5 2 32 2 4 4 16 960 10 3 2 4 960 10 (by decide))
  | (with_reducible show Calls _ _ #[.int .u32 12] _ _
     obtain ⟨V, hV⟩ : ∃ V : Value, V = .tuple #[.agg #[.int .u32 12, .bool true, .int .i64 32, .int .i64 8, .int .i64 34, .int .i64 0], .int .i64 0] := ⟨_, rfl⟩
     have F := r_h5 2 32 3 8 8 256 8160 13 2 3 8 8160 13 (by decide))
  | (with_reducible show Calls _ _ #[.int .u32 13] _ _
     obtain ⟨V, hV⟩ : ∃ V : Value, V = .tuple #[.agg #[.int .u32 13, .bool true, .int .i64 24, .int .i64 1, .int .i64 200, .int .i64 8], .int .i64 0] := ⟨_, rfl⟩
     have F := r_h5 3 24 0 1 1 2 192 8 8 0 1 192 8 (by decide))
  | (with_reducible show Calls _ _ #[.int .u32 14] _ _
     obtain ⟨V, hV⟩ : ∃ V : Value, V = .tuple #[.agg #[.int .u32 14, .bool true, .int .i64 24, .int .i64 2, .int .i64 101, .int .i64 6], .int .i64 0] := ⟨_, rfl⟩
     have F := r_h5 3 24 1 2 2 4 288 9 5 1 2 288 9 (by decide))
  | (with_reducible show Calls _ _ #[.int .u32 15] _ _
     obtain ⟨V, hV⟩ : ∃ V : Value, V = .tuple #[.agg #[.int .u32 15, .bool true, .int .i64 24, .int .i64 4, .int .i64 51, .int .i64 4], .int .i64 0] := ⟨_, rfl⟩
     have F := r_h5 3 24 2 4 4 16 720 10 3 2 4 720 10 (by decide))
  | (with_reducible show Calls _ _ #[.int .u32 16] _ _
     obtain ⟨V, hV⟩ : ∃ V : Value, V = .tuple #[.agg #[.int .u32 16, .bool true, .int .i64 24, .int .i64 8, .int .i64 26, .int .i64 0], .int .i64 0] := ⟨_, rfl⟩
     have F := r_h5 3 24 3 8 8 256 6120 13 2 3 8 6120 13 (by decide))
  obtain ⟨b1, p1, p2, b2, u1⟩ := F
  go_enter Tryz.func117, Tryz.ntmps117
  go_wp2_with fail
  refine (b1.out _).mono ?_
  rintro e w' ⟨rfl, rfl⟩
  go_wp2_with fail
  refine (p1.out _).mono ?_
  rintro e w' ⟨rfl, rfl⟩
  go_wp2_with fail
  refine (p2.out _).mono ?_
  rintro e w' ⟨rfl, rfl⟩
  go_wp2_with fail
  refine (b2.out _).mono ?_
  rintro e w' ⟨rfl, rfl⟩
  go_wp2_with fail
  refine (u1.out _).mono ?_
  rintro e w' ⟨rfl, rfl⟩
  go_wp2_with fail
  exact bodyPost_ret (v := V) (by rw [hV]; simp [results, Tryz.results117, go_sem]) rfl ⟨by rw [hV]; kernel_rfl, by repeat (first | exact Below.refl _ _ | refine Below.setCell ?_ (Nat.le_refl _) _ | refine Below.alloc ?_ (Nat.le_refl _) _)⟩
theorem r_ots0 (w : World) : Calls Tryz.prog 117 #[.int .u32 0] w fun e w' => e = .returned (.tuple #[OtsR.zero.enc, .int .i64 60]) /\ Below w.heap.size w w' := by
 go_enter Tryz.func117, Tryz.ntmps117
 go_wp2
 exact bodyPost_ret (v := .tuple #[OtsR.zero.enc, .int .i64 60]) (by simp [results, Tryz.results117, go_sem, OtsR.zero, OtsR.enc]) rfl ⟨rfl, by repeat (first | exact Below.refl _ _ | refine Below.setCell ?_ (Nat.le_refl _) _ | refine Below.alloc ?_ (Nat.le_refl _) _)⟩
theorem r_otsBig (a : Int) (h1 : 16 < a) (w : World) : Calls Tryz.prog 117 #[.int .u32 a] w fun e w' => e = .returned (.tuple #[OtsR.zero.enc, .int .i64 60]) /\ Below w.heap.size w w' := by
 have h0 : 1 <= a := by omega
 go_enter Tryz.func117, Tryz.ntmps117
 go_wp2
 exact bodyPost_ret (v := .tuple #[OtsR.zero.enc, .int .i64 60]) (by simp [results, Tryz.results117, go_sem, OtsR.zero, OtsR.enc]) rfl ⟨rfl, by repeat (first | exact Below.refl _ _ | refine Below.setCell ?_ (Nat.le_refl _) _ | refine Below.alloc ?_ (Nat.le_refl _) _)⟩
theorem r_Ots (c : Int) (w : World) (h0 : 0 <= c) (g1 : c < 4294967296) :
 Calls Tryz.prog 117 #[.int .u32 c] w fun e w' => e = .returned (.tuple #[(ots c).1.enc, .int .i64 (ots c).2]) /\ Below w.heap.size w w' := by
 by_cases hb : 16 < c
 · rw [show ots c = (OtsR.zero, 60) by unfold ots; rw [Spec.otsTab_big _ (by omega)]]
   exact r_otsBig c hb w
 · by_cases hz : c = 0
   · subst hz
     exact r_ots0 w
   · exact r_otsA c w (by omega) (by omega)
theorem r_own (a0 a1 : Int) (w : World) (g0 : 0 <= a0) (g1 : a0 < 4294967296) (g2 : 0 <= a1) (g3 : a1 + 64 < 4294967296) :
 Calls Tryz.prog 143 #[.int .u32 a0, .int .u32 a1] w fun e w' => e = .returned (.tuple #[.int .i64 (ownR a0 a1).1, .int .i64 (ownR a0 a1).2.1, .bool (ownR a0 a1).2.2]) /\ w' = w := by
 by_cases h1 : a0 < a1
 · have e : ownR a0 a1 = (0, 0, false) := by unfold ownR; rw [if_pos h1]
   rw [e]
   clear e
   go_enter Tryz.func143, Tryz.ntmps143
   go_wp2
   go_ret3
   exact ⟨rfl, rfl⟩
 · by_cases h2 : a1 + 64 <= a0
   · have e : ownR a0 a1 = (0, 0, false) := by unfold ownR; rw [if_neg h1, if_pos h2]
     rw [e]
     have h3 : a1 + 63 < a0 := by omega
     clear e h2
     go_enter Tryz.func143, Tryz.ntmps143
     go_wp2
     go_ret3
     exact ⟨rfl, rfl⟩
   · have e : ownR a0 a1 = ((a0 - a1) / 16, (a0 - a1) % 16, decide (1 <= (a0 - a1) % 16) && decide ((a0 - a1) % 16 <= 4)) := by unfold ownR; rw [if_neg h1, if_neg h2]
     rw [e]
     have d0 : 0 <= a0 - a1 := by omega
     have d1 : a0 - a1 < 64 := by omega
     have d2 : ¬ a1 + 63 < a0 := by omega
     clear e
     by_cases h3 : 1 <= (a0 - a1) % 16
     · have h3b : decide (1 <= (a0 - a1) % 16) = true := decide_eq_true h3
       rw [h3b, Bool.true_and]
       go_enter Tryz.func143, Tryz.ntmps143
       go_wp2
       go_ret3
       exact ⟨rfl, rfl⟩
     · have h3b : decide (1 <= (a0 - a1) % 16) = false := decide_eq_false h3
       rw [h3b, Bool.false_and]
       go_enter Tryz.func143, Tryz.ntmps143
       go_wp2
       go_ret3
       exact ⟨rfl, rfl⟩
theorem r_Lms (c : Int) (w : World) (g0 : 0 <= c) (g1 : c < 4294967296) :
 Calls Tryz.prog 118 #[.int .u32 c] w fun e w' => e = .returned (.tuple #[(lms c).1.enc, .int .i64 (lms c).2]) /\ Below w.heap.size w w' := by
 by_cases h1 : 5 <= c /\ c <= 24
 · rw [lms_eq (show lmsFam c = some ((c - 5) / 5, 5 * (c % 5 + 1)) by unfold lmsFam; rw [if_pos h1])]
   obtain ⟨h1, h2⟩ := h1
   have Co := fun w => r_own c 4026531840 w g0 g1 (by omega) (by omega)
   have Ch := fun w => r_bytes ((c - 5) / 5) w (by omega) (by omega)
   have co := Lib.hid Co; have ch := Lib.hid Ch; clear Co Ch
   go_enter Tryz.func118, Tryz.ntmps118
   go_wp2_with (first
    | (go_at_call 143; refine (co.out _).mono ?_; rintro e w' ⟨rfl, rfl⟩)
    | (go_at_call 144; refine (ch.out _).mono ?_; rintro e w' ⟨rfl, rfl⟩))
   exact bodyPost_ret (v := .tuple #[.agg #[.int .u32 c, .bool (fShake ((c - 5) / 5)), .int .i64 (fBytes ((c - 5) / 5)), .int .i64 (5 * (c % 5 + 1))], .int .i64 0]) (by simp [results, Tryz.results118, go_sem, fShake]) rfl ⟨rfl, by repeat (first | exact Below.refl _ _ | refine Below.setCell ?_ (Nat.le_refl _) _ | refine Below.alloc ?_ (Nat.le_refl _) _)⟩
 · by_cases hb : 4026531840 <= c /\ c < 4026531840 + 64 /\ 1 <= (c - 4026531840) % 16 /\ (c - 4026531840) % 16 <= 4
   · have hy := ownR_yes hb
     rw [lms_eq (show lmsFam c = some ((c - 4026531840) / 16, (c - 4026531840) % 16) by unfold lmsFam; rw [if_neg h1]; exact hy.2)]
     have Co := fun w => r_own c 4026531840 w g0 g1 (by omega) (by omega)
     rw [hy.1] at Co
     have Ch := fun w => r_bytes ((c - 4026531840) / 16) w (by omega) (by omega)
     have co := Lib.hid Co; have ch := Lib.hid Ch; clear Co Ch hy
     have g2 : 24 < c := by omega
     have g3 : 5 <= c := by omega
     generalize (c - 4026531840) / 16 = f at *
     generalize (c - 4026531840) % 16 = m at *
     clear h1 hb
     go_enter Tryz.func118, Tryz.ntmps118
     go_wp2_with (first
      | (go_at_call 143; refine (co.out _).mono ?_; rintro e w' ⟨rfl, rfl⟩)
      | (go_at_call 144; refine (ch.out _).mono ?_; rintro e w' ⟨rfl, rfl⟩))
     exact bodyPost_ret (v := .tuple #[.agg #[.int .u32 c, .bool (fShake f), .int .i64 (fBytes f), .int .i64 m], .int .i64 0]) (by simp [results, Tryz.results118, go_sem, fShake]) rfl ⟨rfl, by repeat (first | exact Below.refl _ _ | refine Below.setCell ?_ (Nat.le_refl _) _ | refine Below.alloc ?_ (Nat.le_refl _) _)⟩
   · obtain ⟨f, m, hn1, hn2⟩ := ownR_no hb
     rw [lms_no (show lmsFam c = none by unfold lmsFam; rw [if_neg h1]; exact hn2)]
     have Co := fun w => r_own c 4026531840 w g0 g1 (by omega) (by omega)
     rw [hn1] at Co
     have co := Lib.hid Co; clear Co hn1 hn2 hb
     by_cases h5 : 5 <= c
     · have h6 : 24 < c := by omega
       clear h1
       go_enter Tryz.func118, Tryz.ntmps118
       go_wp2_with (first
        | (go_at_call 143; refine (co.out _).mono ?_; rintro e w' ⟨rfl, rfl⟩))
       exact bodyPost_ret (v := .tuple #[.agg #[.int .u32 0, .bool false, .int .i64 0, .int .i64 0], .int .i64 60]) (by simp [results, Tryz.results118, go_sem, fShake]) rfl ⟨rfl, by repeat (first | exact Below.refl _ _ | refine Below.setCell ?_ (Nat.le_refl _) _ | refine Below.alloc ?_ (Nat.le_refl _) _)⟩
     · clear h1
       go_enter Tryz.func118, Tryz.ntmps118
       go_wp2_with (first
        | (go_at_call 143; refine (co.out _).mono ?_; rintro e w' ⟨rfl, rfl⟩))
       exact bodyPost_ret (v := .tuple #[.agg #[.int .u32 0, .bool false, .int .i64 0, .int .i64 0], .int .i64 60]) (by simp [results, Tryz.results118, go_sem, fShake]) rfl ⟨rfl, by repeat (first | exact Below.refl _ _ | refine Below.setCell ?_ (Nat.le_refl _) _ | refine Below.alloc ?_ (Nat.le_refl _) _)⟩
theorem r_xmsA (c : Int) (w : World) (h : (1 <= c /\ c <= 3) \/ 13 <= c /\ c <= 21) : Calls Tryz.prog 114 #[.int .u32 c] w fun e w' => e = .returned (.tuple #[(xms c).1.enc, .int .i64 (xms c).2]) /\ Below w.heap.size w w' := by
 have Co : ∀ w, Calls Tryz.prog 143 #[.int .u32 c, .int .u32 4043309056] w fun e w' => e = .returned (.tuple #[.int .i64 0, .int .i64 0, .bool false]) /\ w' = w := fun w => by
  have k := r_own c 4043309056 w (by omega) (by omega) (by omega) (by omega)
  rwa [show ownR c 4043309056 = (0, 0, false) by unfold ownR; rw [if_pos (by omega)]] at k
 have co := Lib.hid Co; clear Co
 obtain rfl | rfl | rfl | rfl | rfl | rfl | rfl | rfl | rfl | rfl | rfl | rfl : c = 1 \/ c = 2 \/ c = 3 \/ c = 13 \/ c = 14 \/ c = 15 \/ c = 16 \/ c = 17 \/ c = 18 \/ c = 19 \/ c = 20 \/ c = 21 := by omega
 all_goals
  clear h
  first
  | (with_reducible show Calls _ _ #[.int .u32 1] _ _
     obtain ⟨V, hV⟩ : ∃ V : Value, V = .tuple #[.agg #[.int .u32 1, .bool false, .int .i64 32, .int .i64 10, .int .i64 67], .int .i64 0] := ⟨_, rfl⟩
     have ch := Lib.hid (show ∀ w, Calls Tryz.prog 144 #[.int .i64 0] w fun e w' => e = .returned (.int .i64 32) /\ w' = w from fun w => r_bytes 0 w (by omega) (by omega)))
  | (with_reducible show Calls _ _ #[.int .u32 2] _ _
     obtain ⟨V, hV⟩ : ∃ V : Value, V = .tuple #[.agg #[.int .u32 2, .bool false, .int .i64 32, .int .i64 16, .int .i64 67], .int .i64 0] := ⟨_, rfl⟩
     have ch := Lib.hid (show ∀ w, Calls Tryz.prog 144 #[.int .i64 0] w fun e w' => e = .returned (.int .i64 32) /\ w' = w from fun w => r_bytes 0 w (by omega) (by omega)))
  | (with_reducible show Calls _ _ #[.int .u32 3] _ _
     obtain ⟨V, hV⟩ : ∃ V : Value, V = .tuple #[.agg #[.int .u32 3, .bool false, .int .i64 32, .int .i64 20, .int .i64 67], .int .i64 0] := ⟨_, rfl⟩
     have ch := Lib.hid (show ∀ w, Calls Tryz.prog 144 #[.int .i64 0] w fun e w' => e = .returned (.int .i64 32) /\ w' = w from fun w => r_bytes 0 w (by omega) (by omega)))
  | (with_reducible show Calls _ _ #[.int .u32 13] _ _
     obtain ⟨V, hV⟩ : ∃ V : Value, V = .tuple #[.agg #[.int .u32 13, .bool false, .int .i64 24, .int .i64 10, .int .i64 51], .int .i64 0] := ⟨_, rfl⟩
     have ch := Lib.hid (show ∀ w, Calls Tryz.prog 144 #[.int .i64 1] w fun e w' => e = .returned (.int .i64 24) /\ w' = w from fun w => r_bytes 1 w (by omega) (by omega)))
  | (with_reducible show Calls _ _ #[.int .u32 14] _ _
     obtain ⟨V, hV⟩ : ∃ V : Value, V = .tuple #[.agg #[.int .u32 14, .bool false, .int .i64 24, .int .i64 16, .int .i64 51], .int .i64 0] := ⟨_, rfl⟩
     have ch := Lib.hid (show ∀ w, Calls Tryz.prog 144 #[.int .i64 1] w fun e w' => e = .returned (.int .i64 24) /\ w' = w from fun w => r_bytes 1 w (by omega) (by omega)))
  | (with_reducible show Calls _ _ #[.int .u32 15] _ _
     obtain ⟨V, hV⟩ : ∃ V : Value, V = .tuple #[.agg #[.int .u32 15, .bool false, .int .i64 24, .int .i64 20, .int .i64 51], .int .i64 0] := ⟨_, rfl⟩
     have ch := Lib.hid (show ∀ w, Calls Tryz.prog 144 #[.int .i64 1] w fun e w' => e = .returned (.int .i64 24) /\ w' = w from fun w => r_bytes 1 w (by omega) (by omega)))
  | (with_reducible show Calls _ _ #[.int .u32 16] _ _
     obtain ⟨V, hV⟩ : ∃ V : Value, V = .tuple #[.agg #[.int .u32 16, .bool true, .int .i64 32, .int .i64 10, .int .i64 67], .int .i64 0] := ⟨_, rfl⟩
     have ch := Lib.hid (show ∀ w, Calls Tryz.prog 144 #[.int .i64 2] w fun e w' => e = .returned (.int .i64 32) /\ w' = w from fun w => r_bytes 2 w (by omega) (by omega)))
  | (with_reducible show Calls _ _ #[.int .u32 17] _ _
     obtain ⟨V, hV⟩ : ∃ V : Value, V = .tuple #[.agg #[.int .u32 17, .bool true, .int .i64 32, .int .i64 16, .int .i64 67], .int .i64 0] := ⟨_, rfl⟩
     have ch := Lib.hid (show ∀ w, Calls Tryz.prog 144 #[.int .i64 2] w fun e w' => e = .returned (.int .i64 32) /\ w' = w from fun w => r_bytes 2 w (by omega) (by omega)))
  | (with_reducible show Calls _ _ #[.int .u32 18] _ _
     obtain ⟨V, hV⟩ : ∃ V : Value, V = .tuple #[.agg #[.int .u32 18, .bool true, .int .i64 32, .int .i64 20, .int .i64 67], .int .i64 0] := ⟨_, rfl⟩
     have ch := Lib.hid (show ∀ w, Calls Tryz.prog 144 #[.int .i64 2] w fun e w' => e = .returned (.int .i64 32) /\ w' = w from fun w => r_bytes 2 w (by omega) (by omega)))
  | (with_reducible show Calls _ _ #[.int .u32 19] _ _
     obtain ⟨V, hV⟩ : ∃ V : Value, V = .tuple #[.agg #[.int .u32 19, .bool true, .int .i64 24, .int .i64 10, .int .i64 51], .int .i64 0] := ⟨_, rfl⟩
     have ch := Lib.hid (show ∀ w, Calls Tryz.prog 144 #[.int .i64 3] w fun e w' => e = .returned (.int .i64 24) /\ w' = w from fun w => r_bytes 3 w (by omega) (by omega)))
  | (with_reducible show Calls _ _ #[.int .u32 20] _ _
     obtain ⟨V, hV⟩ : ∃ V : Value, V = .tuple #[.agg #[.int .u32 20, .bool true, .int .i64 24, .int .i64 16, .int .i64 51], .int .i64 0] := ⟨_, rfl⟩
     have ch := Lib.hid (show ∀ w, Calls Tryz.prog 144 #[.int .i64 3] w fun e w' => e = .returned (.int .i64 24) /\ w' = w from fun w => r_bytes 3 w (by omega) (by omega)))
  | (with_reducible show Calls _ _ #[.int .u32 21] _ _
     obtain ⟨V, hV⟩ : ∃ V : Value, V = .tuple #[.agg #[.int .u32 21, .bool true, .int .i64 24, .int .i64 20, .int .i64 51], .int .i64 0] := ⟨_, rfl⟩
     have ch := Lib.hid (show ∀ w, Calls Tryz.prog 144 #[.int .i64 3] w fun e w' => e = .returned (.int .i64 24) /\ w' = w from fun w => r_bytes 3 w (by omega) (by omega)))
  go_enter Tryz.func114, Tryz.ntmps114
  go_wp2_with (first | (go_at_call 143; refine (co.out _).mono ?_; rintro e w' ⟨rfl, rfl⟩) | (go_at_call 144; refine (ch.out _).mono ?_; rintro e w' ⟨rfl, rfl⟩))
  go_quiet (fail)
  go_wp2_with (first | (go_at_call 143; refine (co.out _).mono ?_; rintro e w' ⟨rfl, rfl⟩) | (go_at_call 144; refine (ch.out _).mono ?_; rintro e w' ⟨rfl, rfl⟩))
  exact bodyPost_ret (v := V) (by rw [hV]; simp [results, Tryz.results114, go_sem]) rfl ⟨by rw [hV]; kernel_rfl, by repeat (first | (with_reducible exact Below.refl _ _) | (with_reducible refine pw_below_drewN ?_ _) | (with_reducible refine Below.setCell ?_ (by simp) _) | (with_reducible refine Below.alloc ?_ (by simp) _))⟩
theorem r_Xmss (c : Int) (w : World) (g0 : 0 <= c) (g1 : c < 4294967296) :
 Calls Tryz.prog 114 #[.int .u32 c] w fun e w' => e = .returned (.tuple #[(xms c).1.enc, .int .i64 (xms c).2]) /\ Below w.heap.size w w' := by
 by_cases h1 : 1 <= c /\ c <= 3
 · exact r_xmsA c w (.inl h1)
 · by_cases h2 : 13 <= c /\ c <= 21
   · exact r_xmsA c w (.inr h2)
   · have hx : xmsFam c = ownFam c 4043309056 := by unfold xmsFam; rw [if_neg h1, if_neg h2]
     by_cases hb : 4043309056 <= c /\ c < 4043309056 + 64 /\ 1 <= (c - 4043309056) % 16 /\ (c - 4043309056) % 16 <= 4
     · have hy := ownR_yes hb
       rw [xms_eq (hx.trans hy.2)]
       have Co := fun w => r_own c 4043309056 w g0 g1 (by omega) (by omega)
       rw [hy.1] at Co
       have Ch := fun w => r_bytes ((c - 4043309056) / 16) w (by omega) (by omega)
       have g2 : 21 < c := by omega
       have g3 : 13 <= c := by omega
       have g4 : 3 < c := by omega
       have g5 : 1 <= c := by omega
       have co := Lib.hid Co; have ch := Lib.hid Ch; clear Co Ch hy hx
       obtain ⟨b1, b2⟩ := fBytes_bd ((c - 4043309056) / 16)
       generalize (c - 4043309056) / 16 = f at *
       generalize (c - 4043309056) % 16 = m at *
       clear h1 h2 hb
       go_enter Tryz.func114, Tryz.ntmps114
       go_wp2_with (first
        | (go_at_call 143; refine (co.out _).mono ?_; rintro e w' ⟨rfl, rfl⟩)
        | (go_at_call 144; refine (ch.out _).mono ?_; rintro e w' ⟨rfl, rfl⟩))
       exact bodyPost_ret (v := .tuple #[.agg #[.int .u32 c, .bool (fShake f), .int .i64 (fBytes f), .int .i64 m, .int .i64 (2 * fBytes f + 3)], .int .i64 0]) (by simp [results, Tryz.results114, go_sem, fShake]) rfl ⟨rfl, by repeat (first | (with_reducible exact Below.refl _ _) | (with_reducible refine pw_below_drewN ?_ _) | (with_reducible refine Below.setCell ?_ (by simp) _) | (with_reducible refine Below.alloc ?_ (by simp) _))⟩
     · obtain ⟨f, m, hn1, hn2⟩ := ownR_no hb
       rw [xms_no (hx.trans hn2)]
       have Co := fun w => r_own c 4043309056 w g0 g1 (by omega) (by omega)
       rw [hn1] at Co
       have co := Lib.hid Co; clear Co hn1 hn2 hb hx
       by_cases h5 : 1 <= c
       · have h6 : 3 < c := by omega
         clear h1
         by_cases h7 : 13 <= c
         · have h8 : 21 < c := by omega
           clear h2
           go_enter Tryz.func114, Tryz.ntmps114
           go_wp2_with (first
            | (go_at_call 143; refine (co.out _).mono ?_; rintro e w' ⟨rfl, rfl⟩))
           exact bodyPost_ret (v := .tuple #[.agg #[.int .u32 0, .bool false, .int .i64 0, .int .i64 0, .int .i64 0], .int .i64 60]) (by simp [results, Tryz.results114, go_sem, fShake]) rfl ⟨rfl, by repeat (first | (with_reducible exact Below.refl _ _) | (with_reducible refine pw_below_drewN ?_ _) | (with_reducible refine Below.setCell ?_ (by simp) _) | (with_reducible refine Below.alloc ?_ (by simp) _))⟩
         · clear h2
           go_enter Tryz.func114, Tryz.ntmps114
           go_wp2_with (first
            | (go_at_call 143; refine (co.out _).mono ?_; rintro e w' ⟨rfl, rfl⟩))
           exact bodyPost_ret (v := .tuple #[.agg #[.int .u32 0, .bool false, .int .i64 0, .int .i64 0, .int .i64 0], .int .i64 60]) (by simp [results, Tryz.results114, go_sem, fShake]) rfl ⟨rfl, by repeat (first | (with_reducible exact Below.refl _ _) | (with_reducible refine pw_below_drewN ?_ _) | (with_reducible refine Below.setCell ?_ (by simp) _) | (with_reducible refine Below.alloc ?_ (by simp) _))⟩
       · have h7 : ¬ 13 <= c := by omega
         clear h1 h2
         go_enter Tryz.func114, Tryz.ntmps114
         go_wp2_with (first
          | (go_at_call 143; refine (co.out _).mono ?_; rintro e w' ⟨rfl, rfl⟩))
         exact bodyPost_ret (v := .tuple #[.agg #[.int .u32 0, .bool false, .int .i64 0, .int .i64 0, .int .i64 0], .int .i64 60]) (by simp [results, Tryz.results114, go_sem, fShake]) rfl ⟨rfl, by repeat (first | (with_reducible exact Below.refl _ _) | (with_reducible refine pw_below_drewN ?_ _) | (with_reducible refine Below.setCell ?_ (by simp) _) | (with_reducible refine Below.alloc ?_ (by simp) _))⟩
end Go.Proofs.YtpdinahdcedmkaaGreatDoor.ExtP
