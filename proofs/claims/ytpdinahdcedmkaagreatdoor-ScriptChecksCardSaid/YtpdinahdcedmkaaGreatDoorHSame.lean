import Derived.Test.YtpdinahdcedmkaaGreatDoorMEq
import Derived.Test.YtpdinahdcedmkaaGreatDoorMCheck
import Derived.Laws.CopyOwn
/- script.sameAct, slices.EqualFunc of acts, script.Same. -/
namespace Go.Proofs.YtpdinahdcedmkaaGreatDoor.Ext
open Go.Proofs.YtpdinahdcedmkaaGreatDoor.P
set_option linter.unusedVariables false
set_option linter.unusedSimpArgs false
open Go.RowKit Go.Proofs.YtpdinahdcedmkaaGreatDoorW.PrintWords Go.Proofs.YtpdinahdcedmkaaGreatDoorW.PrintLast Go.Proofs.YtpdinahdcedmkaaGreatDoorW.PrintMore

def sameA (x y : Act) : Bool := x.f0 == y.f0 && (x.f1 == y.f1 && (x.f2 == y.f2 && (x.f3 == y.f3 && (x.f5 == y.f5 && (x.f6 == y.f6 && (x.f7 == y.f7 && ((x.f8.f0 == y.f8.f0 && x.f8.f1 == y.f8.f1) && (x.f9 == y.f9 && (decide (x.f10 = y.f10) && (eqBy lvq x.f4 y.f4 && eqBy boq x.f11 y.f11))))))))))
def plainA (x y : Act) : Bool := x.f0 == y.f0 && (x.f1 == y.f1 && (x.f2 == y.f2 && (x.f3 == y.f3 && (x.f5 == y.f5 && (x.f6 == y.f6 && (x.f7 == y.f7 && ((x.f8.f0 == y.f8.f0 && x.f8.f1 == y.f8.f1) && x.f9 == y.f9)))))))
theorem sameA_parts (x y : Act) : sameA x y = (plainA x y && (decide (x.f10 = y.f10) && (eqBy lvq x.f4 y.f4 && eqBy boq x.f11 y.f11))) := by unfold sameA plainA; simp only [Bool.and_assoc]
/-- an act's bytes are bytes, and not too many -/
def DataBd (x : Act) : Prop := Bytes x.f10 ∧ x.f10.length ≤ 1048576
theorem c_same (A : Option Addr) (c : Nat) (a : List Int) (B : Option Addr) (d : Nat) (b : List Int) (w : World) (hA : Kd.C (Kd.int .u8) w A a.length a) (hB : Kd.C (Kd.int .u8) w B b.length b) (hc : a.length ≤ c) (hd : b.length ≤ d) (ha : Bytes a) (hb : Bytes b) (hl : a.length ≤ 1048576) :
    Calls Tryz.prog 97 #[.slice A a.length c, .slice B b.length d] w (BoolB (decide (a = b)) w) :=
  (octet_Same.calls (a.length + 1) A c a B d b _ w hA hc hB hd (same_f a b ha hb hl)).mono fun e w' h => ⟨h.1, h.2.below⟩
attribute [local go_sem high] eqRg
set_option maxHeartbeats 40000000 in
set_option maxRecDepth 100000 in
theorem c_sameAct (x y : Act) (cs ds : List Value) (w : World) (hK : k34.K w x cs) (hL : k34.K w y ds) (hx : DataBd x) (hy : DataBd y) :
    Calls Tryz.prog 53 #[.agg cs.toArray, .agg ds.toArray] w (BoolB (sameA x y) w) := by
  have X0 := Aside0.mk ((Bx.new w cs 34).push (.cells ds.toArray 34))
  have Y0 := Aside0.mk ((Bx.new w cs 34).on ds 34 |>.at_ (show _ = w.heap.size + 1 by simp))
  obtain ⟨A4, c4, A11, c11, A12, c12, rfl, l4, g4, l11, g11, l12, g12⟩ := k34_open hK
  obtain ⟨B4, d4, B11, d11, B12, d12, rfl, m4, e4, m11, e11, m12, e12⟩ := k34_open hL
  have cD := Lib.hid (fun W (hW : Below w.heap.size w W) => c_same A11 c11 x.f10 B11 d11 y.f10 W (Kd.C_below g11 hW) (Kd.C_below e11 hW) l11 m11 hx.1 hy.1 hx.2)
  have cV := Lib.hid (fun W (hW : Below w.heap.size w W) => c_eqLv A4 c4 x.f4 B4 d4 y.f4 W (Kd.C_below g4 hW) (Kd.C_below e4 hW) l4 m4)
  have cB := Lib.hid (fun W (hW : Below w.heap.size w W) => c_eqBool A12 c12 x.f11 B12 d12 y.f11 W (Kd.C_below g12 hW) (Kd.C_below e12 hW) l12 m12)
  clear hK hL hx hy g4 g11 g12 l4 l11 l12 m4 e4 m11 e11 m12 e12
  obtain ⟨R, hR⟩ : ∃ R, sameA x y = R := ⟨_, rfl⟩
  rw [hR]
  rw [sameA_parts] at hR
  obtain ⟨P, hP⟩ : ∃ P, plainA x y = P := ⟨_, rfl⟩
  rw [hP] at hR
  generalize decide (x.f10 = y.f10) = bD at *
  generalize eqBy lvq x.f4 y.f4 = bV at *
  generalize eqBy boq x.f11 y.f11 = bB at *
  unfold plainA at hP
  obtain ⟨z0, e0⟩ : ∃ b, (x.f0 == y.f0) = b := ⟨_, rfl⟩
  obtain ⟨z1, e1⟩ : ∃ b, (x.f1 == y.f1) = b := ⟨_, rfl⟩
  obtain ⟨z2, e2⟩ : ∃ b, (x.f2 == y.f2) = b := ⟨_, rfl⟩
  obtain ⟨z3, e3⟩ : ∃ b, (x.f3 == y.f3) = b := ⟨_, rfl⟩
  obtain ⟨z4, e4⟩ : ∃ b, (x.f5 == y.f5) = b := ⟨_, rfl⟩
  obtain ⟨z5, e5⟩ : ∃ b, (x.f6 == y.f6) = b := ⟨_, rfl⟩
  obtain ⟨z6, e6⟩ : ∃ b, (x.f7 == y.f7) = b := ⟨_, rfl⟩
  obtain ⟨z7, e7⟩ : ∃ b, (x.f9 == y.f9) = b := ⟨_, rfl⟩
  obtain ⟨z8, e8⟩ : ∃ b, (x.f8.f0 == y.f8.f0) = b := ⟨_, rfl⟩
  obtain ⟨z9, e9⟩ : ∃ b, (x.f8.f1 == y.f8.f1) = b := ⟨_, rfl⟩
  rw [e0, e1, e2, e3, e4, e5, e6, e8, e9, e7] at hP
  have HR := Lib.hid hR
  have HP := Lib.hid hP
  clear hR hP
  have q0 := X0.out.c 0
  have q1 := X0.out.c 1
  have q2 := X0.out.c 2
  have q3 := X0.out.c 3
  have q4 := X0.out.c 4
  have q5 := X0.out.c 5
  have q6 := X0.out.c 6
  have q7 := X0.out.c 7
  have q8 := X0.out.c 8
  have q9 := X0.out.c 9
  have q10 := X0.out.c 10
  have q11 := X0.out.c 11
  have q12 := X0.out.c 12
  have r0 := Y0.out.c 0
  have r1 := Y0.out.c 1
  have r2 := Y0.out.c 2
  have r3 := Y0.out.c 3
  have r4 := Y0.out.c 4
  have r5 := Y0.out.c 5
  have r6 := Y0.out.c 6
  have r7 := Y0.out.c 7
  have r8 := Y0.out.c 8
  have r9 := Y0.out.c 9
  have r10 := Y0.out.c 10
  have r11 := Y0.out.c 11
  have r12 := Y0.out.c 12
  go_enter Tryz.func53, Tryz.ntmps53
  go_upto_region 1 with fail
  go_cut [5] (fun s5 wx => s5 = .bool P ∧ Aside0 (Bx w wx w.heap.size [.int .i64 x.f0, .int .i64 x.f1, .int .i64 x.f2, .int .i64 x.f3, .slice A4 x.f4.length c4, .int .u32 x.f5, .int .u32 x.f6, .int .u32 x.f7, .int .u64 x.f8.f0, .int .u64 x.f8.f1, .int .i64 x.f9, .slice A11 x.f10.length c11, .slice A12 x.f11.length c12] 34) ∧ Aside0 (Bx w wx (w.heap.size + 1) [.int .i64 y.f0, .int .i64 y.f1, .int .i64 y.f2, .int .i64 y.f3, .slice B4 y.f4.length d4, .int .u32 y.f5, .int .u32 y.f6, .int .u32 y.f7, .int .u64 y.f8.f0, .int .u64 y.f8.f1, .int .i64 y.f9, .slice B11 y.f10.length d11, .slice B12 y.f11.length d12] 34))
  case first =>
    go_wp2_with fail
    all_goals
      go_meet
      refine ⟨congrArg Value.bool (Eq.trans ?_ HP.out), X0, Y0⟩
      clear HP HR X0 Y0 cD cV cB q0 q1 q2 q3 q4 q5 q6 q7 q8 q9 q10 q11 q12 r0 r1 r2 r3 r4 r5 r6 r7 r8 r9 r10 r11 r12 e0 e1 e2 e3 e4 e5 e6 e7 e8 e9
      simp_all
  case rest =>
    obtain ⟨rfl, X1, Y1⟩ := hcut
    clear HP X0 Y0 q0 q1 q2 q3 q4 q5 q6 q7 q8 q9 q10 q11 q12 r0 r1 r2 r3 r4 r5 r6 r7 r8 r9 r10 r11 r12 e0 e1 e2 e3 e4 e5 e6 e7 e8 e9
    have q4 := X1.out.c 4
    have q11 := X1.out.c 11
    have q12 := X1.out.c 12
    have r4 := Y1.out.c 4
    have r11 := Y1.out.c 11
    have r12 := Y1.out.c 12
    go_wp2_with (first
      | (go_at_call 97
         with_reducible refine (cD.out _ X1.out.hb).mono ?_
         rintro e v ⟨rfl, hb⟩
         replace X1 := Aside0.mk (X1.out.next hb)
         replace Y1 := Aside0.mk (Y1.out.next hb)
         clear hb
         have q4 := X1.out.c 4
         have q12 := X1.out.c 12
         have r4 := Y1.out.c 4
         have r12 := Y1.out.c 12)
      | (go_at_call 98
         with_reducible refine (cV.out _ X1.out.hb).mono ?_
         rintro e v ⟨rfl, hb⟩
         replace X1 := Aside0.mk (X1.out.next hb)
         replace Y1 := Aside0.mk (Y1.out.next hb)
         clear hb
         have q12 := X1.out.c 12
         have r12 := Y1.out.c 12)
      | (go_at_call 99
         with_reducible refine (cB.out _ X1.out.hb).mono ?_
         rintro e v ⟨rfl, hb⟩
         replace X1 := Aside0.mk (X1.out.next hb)
         clear hb)
      | fail)
    all_goals
      go_ret
      refine boolB_i (Eq.trans ?_ HR.out) X1.out.hb
      clear HR X1 Y1 cD cV cB q4 q11 q12 r4 r11 r12
      simp_all
def actBs (l : List Act) : Prop := ∀ i, DataBd (l.getD i z34)
set_option maxHeartbeats 8000000 in
set_option maxRecDepth 100000 in
theorem c_eqActs (A : Option Addr) (c : Nat) (a : List Act) (B : Option Addr) (d : Nat) (b : List Act) (w : World) (hA : k34.C w A a.length a) (hB : k34.C w B b.length b) (hc : a.length ≤ c) (hd : b.length ≤ d) (ha : actBs a) (hb : actBs b) :
    Calls Tryz.prog 52 #[.slice A a.length c, .slice B b.length d, .func (.func 53) #[] #[]] w (BoolB (eqBy sameA a b) w) := by
  have hl : a.length ≤ 9223372036854775807 := hA.2.1
  have hl2 : b.length ≤ 9223372036854775807 := hB.2.1
  obtain ⟨R, hR⟩ : ∃ R, eqBy sameA a b = R := ⟨_, rfl⟩
  rw [hR]
  by_cases hlen : a.length = b.length
  · have HA := Aside0.mk hA
    have HC := Aside0.mk hB
    have HR := Aside0.mk hR
    have cS := Lib.hid (fun i cs ds W (hW : Below w.heap.size w W) (h1 : k34.K w (a.getD i z34) cs) (h2 : k34.K w (b.getD i z34) ds) => c_sameAct (a.getD i z34) (b.getD i z34) cs ds W (k34.K_below hW h1) (k34.K_below hW h2) (ha i) (hb i))
    rw [← hlen] at hd ⊢
    have HLN := Lib.hid hlen
    clear hlen hA hB hR hl2 ha hb
    go_enter Tryz.func52, Tryz.ntmps52
    go_wp2
    go_loopw [17] (fun v17 wr => ∃ i : Nat, i ≤ a.length ∧ v17 = .int .i64 (i : Int) ∧ Aside0 (eqBy sameA (a.drop i) (b.drop i) = R) ∧ Aside0 (Below w.heap.size w wr)) (fun v17 _ => a.length - (intOf v17).toNat)
    case atStart => exact ⟨0, by omega, rfl, HR, ⟨Below.refl _ _⟩⟩
    case round =>
      obtain ⟨i, hi, rfl, hE, hW⟩ := hrel
      by_cases hlt : i < a.length
      · have htb : i < b.length := by have := HLN.out; omega
        obtain ⟨ad, A4, c4, A11, c11, A12, c12, e3, hx0, hx1, hx2, hx3, hx4, hx5, hx6, hx7, hx8, hx9, hx10, hx11, hx12, h4, g4, h11, g11, h12, g12⟩ := at_T34 HA.out (i : Int) (by omega) (by omega)
        cases e3
        obtain ⟨bd, B4, d4, B11, d11, B12, d12, e3, hy0, hy1, hy2, hy3, hy4, hy5, hy6, hy7, hy8, hy9, hy10, hy11, hy12, j4, k4, j11, k11, j12, k12⟩ := at_T34 HC.out (i : Int) (by omega) (by omega)
        cases e3
        have cc := Lib.hid (fun W hW => cS.out i _ _ W hW (k34_mk w _ h4 g4 h11 g11 h12 g12) (k34_mk w _ j4 k4 j11 k11 j12 k12))
        have hE2 := hE.out
        rw [eqBy_drop sameA z34 a b i hlt htb] at hE2
        simp only [rd_T34, Int.toNat_natCast] at *
        clear g4 g11 g12 h4 h11 h12 k4 k11 k12 j4 j11 j12
        have HE := Aside0.mk hE2
        clear hE2 hE htb
        generalize a.getD i z34 = x at *
        generalize b.getD i z34 = y at *
        replace hx0 := (hW.out.cell (World.block_lt_of_cell? w _ hx0)).trans hx0
        replace hx1 := (hW.out.cell (World.block_lt_of_cell? w _ hx1)).trans hx1
        replace hx2 := (hW.out.cell (World.block_lt_of_cell? w _ hx2)).trans hx2
        replace hx3 := (hW.out.cell (World.block_lt_of_cell? w _ hx3)).trans hx3
        replace hx4 := (hW.out.cell (World.block_lt_of_cell? w _ hx4)).trans hx4
        replace hx5 := (hW.out.cell (World.block_lt_of_cell? w _ hx5)).trans hx5
        replace hx6 := (hW.out.cell (World.block_lt_of_cell? w _ hx6)).trans hx6
        replace hx7 := (hW.out.cell (World.block_lt_of_cell? w _ hx7)).trans hx7
        replace hx8 := (hW.out.cell (World.block_lt_of_cell? w _ hx8)).trans hx8
        replace hx9 := (hW.out.cell (World.block_lt_of_cell? w _ hx9)).trans hx9
        replace hx10 := (hW.out.cell (World.block_lt_of_cell? w _ hx10)).trans hx10
        replace hx11 := (hW.out.cell (World.block_lt_of_cell? w _ hx11)).trans hx11
        replace hx12 := (hW.out.cell (World.block_lt_of_cell? w _ hx12)).trans hx12
        replace hy0 := (hW.out.cell (World.block_lt_of_cell? w _ hy0)).trans hy0
        replace hy1 := (hW.out.cell (World.block_lt_of_cell? w _ hy1)).trans hy1
        replace hy2 := (hW.out.cell (World.block_lt_of_cell? w _ hy2)).trans hy2
        replace hy3 := (hW.out.cell (World.block_lt_of_cell? w _ hy3)).trans hy3
        replace hy4 := (hW.out.cell (World.block_lt_of_cell? w _ hy4)).trans hy4
        replace hy5 := (hW.out.cell (World.block_lt_of_cell? w _ hy5)).trans hy5
        replace hy6 := (hW.out.cell (World.block_lt_of_cell? w _ hy6)).trans hy6
        replace hy7 := (hW.out.cell (World.block_lt_of_cell? w _ hy7)).trans hy7
        replace hy8 := (hW.out.cell (World.block_lt_of_cell? w _ hy8)).trans hy8
        replace hy9 := (hW.out.cell (World.block_lt_of_cell? w _ hy9)).trans hy9
        replace hy10 := (hW.out.cell (World.block_lt_of_cell? w _ hy10)).trans hy10
        replace hy11 := (hW.out.cell (World.block_lt_of_cell? w _ hy11)).trans hy11
        replace hy12 := (hW.out.cell (World.block_lt_of_cell? w _ hy12)).trans hy12
        generalize sameA x y = m at *
        have hst := act_store0 (.int .i64 x.f0) (.int .i64 x.f1) (.int .i64 x.f2) (.int .i64 x.f3) (.slice A4 x.f4.length c4) (.int .u32 x.f5) (.int .u32 x.f6) (.int .u32 x.f7) (.int .u64 x.f8.f0) (.int .u64 x.f8.f1) (.int .i64 x.f9) (.slice A11 x.f10.length c11) (.slice A12 x.f11.length c12) (by simp [Value.oneCell'])
        have hsu := act_store0 (.int .i64 y.f0) (.int .i64 y.f1) (.int .i64 y.f2) (.int .i64 y.f3) (.slice B4 y.f4.length d4) (.int .u32 y.f5) (.int .u32 y.f6) (.int .u32 y.f7) (.int .u64 y.f8.f0) (.int .u64 y.f8.f1) (.int .i64 y.f9) (.slice B11 y.f10.length d11) (.slice B12 y.f11.length d12) (by simp [Value.oneCell'])
        have X0 := Aside0.mk ((⟨heap_alloc_new wr _, hW.out.alloc hW.out.size _⟩ : Bx w (wr.alloc (.cells #[.int .i64 x.f0, .int .i64 x.f1, .int .i64 x.f2, .int .i64 x.f3, .slice A4 x.f4.length c4, .int .u32 x.f5, .int .u32 x.f6, .int .u32 x.f7, .int .u64 x.f8.f0, .int .u64 x.f8.f1, .int .i64 x.f9, .slice A11 x.f10.length c11, .slice A12 x.f11.length c12] 34)) wr.heap.size [.int .i64 x.f0, .int .i64 x.f1, .int .i64 x.f2, .int .i64 x.f3, .slice A4 x.f4.length c4, .int .u32 x.f5, .int .u32 x.f6, .int .u32 x.f7, .int .u64 x.f8.f0, .int .u64 x.f8.f1, .int .i64 x.f9, .slice A11 x.f10.length c11, .slice A12 x.f11.length c12] 34).push (.cells #[.int .i64 y.f0, .int .i64 y.f1, .int .i64 y.f2, .int .i64 y.f3, .slice B4 y.f4.length d4, .int .u32 y.f5, .int .u32 y.f6, .int .u32 y.f7, .int .u64 y.f8.f0, .int .u64 y.f8.f1, .int .i64 y.f9, .slice B11 y.f10.length d11, .slice B12 y.f11.length d12] 34))
        have Y0 := Aside0.mk ((⟨heap_alloc_new wr _, hW.out.alloc hW.out.size _⟩ : Bx w (wr.alloc (.cells #[.int .i64 x.f0, .int .i64 x.f1, .int .i64 x.f2, .int .i64 x.f3, .slice A4 x.f4.length c4, .int .u32 x.f5, .int .u32 x.f6, .int .u32 x.f7, .int .u64 x.f8.f0, .int .u64 x.f8.f1, .int .i64 x.f9, .slice A11 x.f10.length c11, .slice A12 x.f11.length c12] 34)) wr.heap.size [.int .i64 x.f0, .int .i64 x.f1, .int .i64 x.f2, .int .i64 x.f3, .slice A4 x.f4.length c4, .int .u32 x.f5, .int .u32 x.f6, .int .u32 x.f7, .int .u64 x.f8.f0, .int .u64 x.f8.f1, .int .i64 x.f9, .slice A11 x.f10.length c11, .slice A12 x.f11.length c12] 34).on [.int .i64 y.f0, .int .i64 y.f1, .int .i64 y.f2, .int .i64 y.f3, .slice B4 y.f4.length d4, .int .u32 y.f5, .int .u32 y.f6, .int .u32 y.f7, .int .u64 y.f8.f0, .int .u64 y.f8.f1, .int .i64 y.f9, .slice B11 y.f10.length d11, .slice B12 y.f11.length d12] 34 |>.at_ (show _ = wr.heap.size + 1 by simp))
        have HV1 := Aside0.mk ((Below.refl wr.heap.size wr).alloc (Nat.le_refl _) (.cells #[.int .i64 x.f0, .int .i64 x.f1, .int .i64 x.f2, .int .i64 x.f3, .slice A4 x.f4.length c4, .int .u32 x.f5, .int .u32 x.f6, .int .u32 x.f7, .int .u64 x.f8.f0, .int .u64 x.f8.f1, .int .i64 x.f9, .slice A11 x.f10.length c11, .slice A12 x.f11.length c12] 34))
        have hz0 := (HV1.out.cell (World.block_lt_of_cell? wr _ hy0)).trans hy0
        have hz1 := (HV1.out.cell (World.block_lt_of_cell? wr _ hy1)).trans hy1
        have hz2 := (HV1.out.cell (World.block_lt_of_cell? wr _ hy2)).trans hy2
        have hz3 := (HV1.out.cell (World.block_lt_of_cell? wr _ hy3)).trans hy3
        have hz4 := (HV1.out.cell (World.block_lt_of_cell? wr _ hy4)).trans hy4
        have hz5 := (HV1.out.cell (World.block_lt_of_cell? wr _ hy5)).trans hy5
        have hz6 := (HV1.out.cell (World.block_lt_of_cell? wr _ hy6)).trans hy6
        have hz7 := (HV1.out.cell (World.block_lt_of_cell? wr _ hy7)).trans hy7
        have hz8 := (HV1.out.cell (World.block_lt_of_cell? wr _ hy8)).trans hy8
        have hz9 := (HV1.out.cell (World.block_lt_of_cell? wr _ hy9)).trans hy9
        have hz10 := (HV1.out.cell (World.block_lt_of_cell? wr _ hy10)).trans hy10
        have hz11 := (HV1.out.cell (World.block_lt_of_cell? wr _ hy11)).trans hy11
        have hz12 := (HV1.out.cell (World.block_lt_of_cell? wr _ hy12)).trans hy12
        go_upto_region 7 with fail
        generalize (wr.alloc (.cells #[.int .i64 x.f0, .int .i64 x.f1, .int .i64 x.f2, .int .i64 x.f3, .slice A4 x.f4.length c4, .int .u32 x.f5, .int .u32 x.f6, .int .u32 x.f7, .int .u64 x.f8.f0, .int .u64 x.f8.f1, .int .i64 x.f9, .slice A11 x.f10.length c11, .slice A12 x.f11.length c12] 34)).alloc (.cells #[.int .i64 y.f0, .int .i64 y.f1, .int .i64 y.f2, .int .i64 y.f3, .slice B4 y.f4.length d4, .int .u32 y.f5, .int .u32 y.f6, .int .u32 y.f7, .int .u64 y.f8.f0, .int .u64 y.f8.f1, .int .i64 y.f9, .slice B11 y.f10.length d11, .slice B12 y.f11.length d12] 34) = W7 at *
        clear hx0 hy0 hz0 hx1 hy1 hz1 hx2 hy2 hz2 hx3 hy3 hz3 hx4 hy4 hz4 hx5 hy5 hz5 hx6 hy6 hz6 hx7 hy7 hz7 hx8 hy8 hz8 hx9 hy9 hz9 hx10 hy10 hz10 hx11 hy11 hz11 hx12 hy12 hz12
        have q0 := X0.out.c 0
        have q1 := X0.out.c 1
        have q2 := X0.out.c 2
        have q3 := X0.out.c 3
        have q4 := X0.out.c 4
        have q5 := X0.out.c 5
        have q6 := X0.out.c 6
        have q7 := X0.out.c 7
        have q8 := X0.out.c 8
        have q9 := X0.out.c 9
        have q10 := X0.out.c 10
        have q11 := X0.out.c 11
        have q12 := X0.out.c 12
        have r0 := Y0.out.c 0
        have r1 := Y0.out.c 1
        have r2 := Y0.out.c 2
        have r3 := Y0.out.c 3
        have r4 := Y0.out.c 4
        have r5 := Y0.out.c 5
        have r6 := Y0.out.c 6
        have r7 := Y0.out.c 7
        have r8 := Y0.out.c 8
        have r9 := Y0.out.c 9
        have r10 := Y0.out.c 10
        have r11 := Y0.out.c 11
        have r12 := Y0.out.c 12
        cases m with
        | true =>
          go_wp2_with (first
            | (go_at_call 53
               with_reducible refine (cc.out _ X0.out.hb).mono ?_
               rintro e v2 ⟨rfl, hb⟩
               replace X0 := Aside0.mk (X0.out.next hb)
               clear hb)
            | fail)
          go_roundw
          case rel => exact ⟨i + 1, by omega, by go_num, ⟨by have := HE.out; rw [Bool.true_and] at this; exact this⟩, ⟨X0.out.hb⟩⟩
          case measure => simp [intOf]; omega
        | false =>
          obtain rfl : R = false := HE.out.symm
          go_wp2_with (first
            | (go_at_call 53
               with_reducible refine (cc.out _ X0.out.hb).mono ?_
               rintro e v2 ⟨rfl, hb⟩
               replace X0 := Aside0.mk (X0.out.next hb)
               clear hb)
            | fail)
          go_ret
          exact ⟨rfl, X0.out.hb⟩
      · have := HLN.out
        obtain rfl : R = true := by rw [← hE.out, eqBy_end _ _ _ _ (by omega) (by omega)]
        clear this
        go_wp2
        go_ret
        exact ⟨rfl, hW.out⟩
  · obtain rfl : R = false := by rw [← hR, eqBy_len _ _ _ hlen]
    have t1 : ((a.length : Int) != (b.length : Int)) = true := by rw [bne_iff_ne]; omega
    clear hlen hR hA hB
    go_enter Tryz.func52, Tryz.ntmps52
    go_wp2
    go_ret
    exact ⟨rfl, Below.refl _ _⟩
end Go.Proofs.YtpdinahdcedmkaaGreatDoor.Ext

