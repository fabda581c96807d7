import Derived.Test.YtpdinahdcedmkaaGreatDoorMRHead
import Derived.Test.YtpdinahdcedmkaaGreatDoorHRMay
import Derived.Test.YtpdinahdcedmkaaGreatDoorMEq
import Derived.Test.YtpdinahdcedmkaaGreatDoorHPlanSame
/- the document's Check. -/
namespace Go.Proofs.YtpdinahdcedmkaaGreatDoor.Ext
open Go.Proofs.YtpdinahdcedmkaaGreatDoor.P
set_option linter.unusedVariables false
set_option linter.unusedSimpArgs false
open Go.RowKit Go.Proofs.YtpdinahdcedmkaaGreatDoorW.PrintWords Go.Proofs.YtpdinahdcedmkaaGreatDoorW.PrintLast Go.Proofs.YtpdinahdcedmkaaGreatDoorW.PrintMore

def checkR (p : Plan) : Bool := headedS p.f0 p.f1 p.f2 && (decide (p.f3.length ≤ 400) && p.f3.all (mayR p.f2.length))
def checkRE (p : Plan) : Int := if checkR p = true then 0 else 270
set_option maxHeartbeats 8000000 in
set_option maxRecDepth 100000 in
theorem r_Check (p : Plan) (cp : List Value) (w : World) (hP : k25.K w p cp) (hp : PlanBd p) (hsm : ∀ i, (p.f2.getD i ByteArray.empty).size ≤ 1073741824) :
    Calls Tryz.prog 19 #[.agg cp.toArray] w (IntB (checkRE p) w) := by
  have cH := Lib.hid (fun W (hW : Below w.heap.size w W) => r_head p cp W (k25.K_below hW hP) hp hsm)
  have cM := Lib.hid (fun i cs W (hW : Below w.heap.size w W) (h1 : k34.K w (p.f3.getD i z34) cs) => r_may p (p.f3.getD i z34) cp cs W (k25.K_below hW hP) (k34.K_below hW h1) (hp.acts i))
  have P0 := Aside0.mk (Bx.new w cp 25)
  obtain ⟨B2, d2, B3, d3, rfl, m2, e2, m3, e3⟩ := k25_open hP
  have hn : p.f3.length ≤ 9223372036854775807 := e3.2.1
  have HC := Aside0.mk e3
  have hle := m3
  clear hP hp hsm m2 e2 m3 e3
  obtain ⟨R, hR⟩ : ∃ R, checkRE p = R := ⟨_, rfl⟩
  rw [hR]
  unfold checkRE checkR at hR
  generalize headedS p.f0 p.f1 p.f2 = bH at *
  have HR := Lib.hid hR
  clear hR
  have r0 := P0.out.c 0
  have r1 := P0.out.c 1
  have r2 := P0.out.c 2
  have r3 := P0.out.c 3
  cases bH with
  | false =>
    obtain rfl : R = 270 := by rw [← HR.out]; rfl
    go_enter Tryz.func19, Tryz.ntmps19
    go_wp2_with (first
      | (go_at_call 27
         with_reducible refine (cH.out _ P0.out.hb).mono ?_
         rintro e v ⟨rfl, hb⟩
         replace P0 := Aside0.mk (P0.out.next hb)
         clear hb
         have r3 := P0.out.c 3)
      | fail)
    go_ret
    exact ⟨rfl, P0.out.hb⟩
  | true =>
  by_cases hlen : p.f3.length ≤ 400
  · have t1 : ¬ 400 < (p.f3.length : Int) := by omega
    have HA0 := Lib.hid (show (if p.f3.all (mayR p.f2.length) = true then (0 : Int) else 270) = R by rw [← HR.out, decide_eq_true hlen]; rfl)
    clear HR hlen
    go_enter Tryz.func19, Tryz.ntmps19
    go_wp2_with (first
      | (go_at_call 27
         with_reducible refine (cH.out _ P0.out.hb).mono ?_
         rintro e v ⟨rfl, hb⟩
         replace P0 := Aside0.mk (P0.out.next hb)
         clear hb
         have r3 := P0.out.c 3)
      | fail)
    go_loopw [17] (fun v17 wr => ∃ i : Nat, v17 = .int .i64 i ∧ i ≤ p.f3.length ∧ Aside0 ((if (p.f3.drop i).all (mayR p.f2.length) = true then (0 : Int) else 270) = R) ∧ Aside0 (Bx w wr w.heap.size [.int .i64 p.f0, .int .i64 p.f1, .slice B2 p.f2.length d2, .slice B3 p.f3.length d3] 25)) (fun v17 _ => p.f3.length - (intOf v17).toNat)
    case atStart => exact ⟨0, rfl, by omega, ⟨HA0.out⟩, P0⟩
    case round =>
      clear r0 r1 r2 r3
      obtain ⟨i, rfl, hi, HA, HP⟩ := hrel
      by_cases hlt : i < p.f3.length
      · obtain ⟨ad, A4, c4, A11, c11, A12, c12, e3, hx0, hx1, hx2, hx3, hx4, hx5, hx6, hx7, hx8, hx9, hx10, hx11, hx12, h4, g4, h11, g11, h12, g12⟩ := at_T34 HC.out (i : Int) (by omega) (by omega)
        cases e3
        have cc := Lib.hid (fun W hW => cM.out i _ W hW (k34_mk w _ h4 g4 h11 g11 h12 g12))
        have HA1 := HA.out
        rw [drop_cons34 p.f3 i hlt, List.all_cons] at HA1
        simp only [rd_T34, Int.toNat_natCast] at *
        clear g4 g11 g12 h4 h11 h12 HA
        generalize p.f3.getD i z34 = x at *
        generalize mayR p.f2.length x = m at *
        have HA3 := Lib.hid HA1
        clear HA1
        replace hx0 := (HP.out.hb.cell (World.block_lt_of_cell? w _ hx0)).trans hx0
        replace hx1 := (HP.out.hb.cell (World.block_lt_of_cell? w _ hx1)).trans hx1
        replace hx2 := (HP.out.hb.cell (World.block_lt_of_cell? w _ hx2)).trans hx2
        replace hx3 := (HP.out.hb.cell (World.block_lt_of_cell? w _ hx3)).trans hx3
        replace hx4 := (HP.out.hb.cell (World.block_lt_of_cell? w _ hx4)).trans hx4
        replace hx5 := (HP.out.hb.cell (World.block_lt_of_cell? w _ hx5)).trans hx5
        replace hx6 := (HP.out.hb.cell (World.block_lt_of_cell? w _ hx6)).trans hx6
        replace hx7 := (HP.out.hb.cell (World.block_lt_of_cell? w _ hx7)).trans hx7
        replace hx8 := (HP.out.hb.cell (World.block_lt_of_cell? w _ hx8)).trans hx8
        replace hx9 := (HP.out.hb.cell (World.block_lt_of_cell? w _ hx9)).trans hx9
        replace hx10 := (HP.out.hb.cell (World.block_lt_of_cell? w _ hx10)).trans hx10
        replace hx11 := (HP.out.hb.cell (World.block_lt_of_cell? w _ hx11)).trans hx11
        replace hx12 := (HP.out.hb.cell (World.block_lt_of_cell? w _ hx12)).trans hx12
        have hst := act_store0 (.int .i64 x.f0) (.int .i64 x.f1) (.int .i64 x.f2) (.int .i64 x.f3) (.slice A4 x.f4.length c4) (.int .u32 x.f5) (.int .u32 x.f6) (.int .u32 x.f7) (.int .u64 x.f8.f0) (.int .u64 x.f8.f1) (.int .i64 x.f9) (.slice A11 x.f10.length c11) (.slice A12 x.f11.length c12) (by simp [Value.oneCell'])
        have X0 := Aside0.mk (HP.out.on [.int .i64 x.f0, .int .i64 x.f1, .int .i64 x.f2, .int .i64 x.f3, .slice A4 x.f4.length c4, .int .u32 x.f5, .int .u32 x.f6, .int .u32 x.f7, .int .u64 x.f8.f0, .int .u64 x.f8.f1, .int .i64 x.f9, .slice A11 x.f10.length c11, .slice A12 x.f11.length c12] 34)
        replace HP := Aside0.mk (HP.out.push (.cells #[.int .i64 x.f0, .int .i64 x.f1, .int .i64 x.f2, .int .i64 x.f3, .slice A4 x.f4.length c4, .int .u32 x.f5, .int .u32 x.f6, .int .u32 x.f7, .int .u64 x.f8.f0, .int .u64 x.f8.f1, .int .i64 x.f9, .slice A11 x.f10.length c11, .slice A12 x.f11.length c12] 34))
        go_upto_region 6 with fail
        generalize wr.alloc (.cells #[.int .i64 x.f0, .int .i64 x.f1, .int .i64 x.f2, .int .i64 x.f3, .slice A4 x.f4.length c4, .int .u32 x.f5, .int .u32 x.f6, .int .u32 x.f7, .int .u64 x.f8.f0, .int .u64 x.f8.f1, .int .i64 x.f9, .slice A11 x.f10.length c11, .slice A12 x.f11.length c12] 34) = W7 at *
        clear hx0 hx1 hx2 hx3 hx4 hx5 hx6 hx7 hx8 hx9 hx10 hx11 hx12 hst
        have q0 := X0.out.c 0
        have q1 := X0.out.c 1
        have q2 := X0.out.c 2
        have q3 := X0.out.c 3
        have q4 := X0.out.c 4
        have q5 := X0.out.c 5
        have q6 := X0.out.c 6
        have q7 := X0.out.c 7
        have q8 := X0.out.c 8
        have q9 := X0.out.c 9
        have q10 := X0.out.c 10
        have q11 := X0.out.c 11
        have q12 := X0.out.c 12
        have r0 := HP.out.c 0
        have r1 := HP.out.c 1
        have r2 := HP.out.c 2
        have r3 := HP.out.c 3
        cases m with
        | true =>
          go_wp2_with (first
            | (go_at_call 28
               with_reducible refine (cc.out _ HP.out.hb).mono ?_
               rintro e v2 ⟨rfl, hb⟩
               replace HP := Aside0.mk (HP.out.next hb)
               clear hb)
            | fail)
          go_roundw
          case rel => exact ⟨i + 1, by go_num, by omega, ⟨by rw [← HA3.out]; rfl⟩, HP⟩
          case measure => simp [intOf]; omega
        | false =>
          obtain rfl : R = 270 := by rw [← HA3.out]; rfl
          go_wp2_with (first
            | (go_at_call 28
               with_reducible refine (cc.out _ HP.out.hb).mono ?_
               rintro e v2 ⟨rfl, hb⟩
               replace HP := Aside0.mk (HP.out.next hb)
               clear hb)
            | fail)
          go_ret
          exact ⟨rfl, HP.out.hb⟩
      · obtain rfl : R = 0 := by rw [← HA.out, List.drop_of_length_le (by omega)]; rfl
        go_wp2
        go_ret
        exact ⟨rfl, HP.out.hb⟩
  · have t1 : 400 < (p.f3.length : Int) := by omega
    obtain rfl : R = 270 := by rw [← HR.out, decide_eq_false hlen]; rfl
    go_enter Tryz.func19, Tryz.ntmps19
    go_wp2_with (first
      | (go_at_call 27
         with_reducible refine (cH.out _ P0.out.hb).mono ?_
         rintro e v ⟨rfl, hb⟩
         replace P0 := Aside0.mk (P0.out.next hb)
         clear hb
         have r3 := P0.out.c 3)
      | fail)
    go_ret
    exact ⟨rfl, P0.out.hb⟩
end Go.Proofs.YtpdinahdcedmkaaGreatDoor.Ext
/- the law's big: is a plan too long to be looked at? -/
namespace Go.Proofs.YtpdinahdcedmkaaGreatDoor.Ext
open Go.Proofs.YtpdinahdcedmkaaGreatDoor.P
set_option linter.unusedVariables false
set_option linter.unusedSimpArgs false
open Go.RowKit Go.Proofs.YtpdinahdcedmkaaGreatDoorW.PrintWords Go.Proofs.YtpdinahdcedmkaaGreatDoorW.PrintLast Go.Proofs.YtpdinahdcedmkaaGreatDoorW.PrintMore

def muchS (x : Act) : Bool := decide (40000 < x.f10.length) || (decide (2000 < x.f11.length) || decide (50 < x.f4.length))
set_option maxHeartbeats 4000000 in
set_option maxRecDepth 100000 in
theorem c_much (x : Act) (cs : List Value) (w : World) (hK : k34.K w x cs) :
    Calls Tryz.prog 10 #[.agg cs.toArray] w (BoolB (muchS x) w) := by
  have X0 := Aside0.mk (Bx.new w cs 34)
  obtain ⟨A4, c4, A11, c11, A12, c12, rfl, l4, g4, l11, g11, l12, g12⟩ := k34_open hK
  have b4 : x.f4.length ≤ 9223372036854775807 := g4.2.1
  have b11 : x.f10.length ≤ 9223372036854775807 := g11.2.1
  have b12 : x.f11.length ≤ 9223372036854775807 := g12.2.1
  clear hK g4 g11 g12 l4 l11 l12
  unfold muchS
  generalize x.f4.length = n4 at *
  generalize x.f10.length = n11 at *
  generalize x.f11.length = n12 at *
  have q4 := X0.out.c 4
  have q11 := X0.out.c 11
  have q12 := X0.out.c 12
  go_enter Tryz.func10, Tryz.ntmps10
  go_wp2_with fail
  all_goals
    go_ret
    refine boolB_i ?_ X0.out.hb
    clear X0 q4 q11 q12
    try simp only [*, Bool.or_true, Bool.true_or, Bool.or_false, Bool.false_or, decide_true, decide_false]
    try first | done | omega | (rw [Bool.eq_iff_iff]; simp; try omega)
def bigL (l : List ByteArray) : Bool := l.any fun s => decide (1000 < s.size)
def bigS (p : Plan) : Bool := (decide (40 < p.f2.length) || decide (60 < p.f3.length)) || (bigL p.f2 || p.f3.any muchS)
theorem drop_getS (l : List ByteArray) (i : Nat) (h : i < l.length) : l.drop i = l.getD i ByteArray.empty :: l.drop (i + 1) := by
  rw [List.drop_eq_getElem_cons h]
  congr 1
  rw [List.getD_eq_getElem?_getD, List.getElem?_eq_getElem h]
  rfl
set_option maxHeartbeats 8000000 in
set_option maxRecDepth 100000 in
theorem c_big (p : Plan) (cp : List Value) (w : World) (hP : k25.K w p cp) :
    Calls Tryz.prog 9 #[.agg cp.toArray] w (BoolB (bigS p) w) := by
  have cM := Lib.hid (fun i cs W (hW : Below w.heap.size w W) (h1 : k34.K w (p.f3.getD i z34) cs) => c_much (p.f3.getD i z34) cs W (k34.K_below hW h1))
  have P0 := Aside0.mk (Bx.new w cp 25)
  obtain ⟨B2, d2, B3, d3, rfl, m2, e2, m3, e3⟩ := k25_open hP
  have hn2 : p.f2.length ≤ 9223372036854775807 := e2.2.1
  have hn3 : p.f3.length ≤ 9223372036854775807 := e3.2.1
  have HC := Aside0.mk e3
  have HN := Aside0.mk e2
  clear hP m2 e2 m3 e3
  obtain ⟨R, hR⟩ : ∃ R, bigS p = R := ⟨_, rfl⟩
  rw [hR]
  unfold bigS at hR
  have HR := Lib.hid hR
  clear hR
  have r2 := P0.out.c 2
  have r3 := P0.out.c 3
  by_cases hbg : 40 < p.f2.length ∨ 60 < p.f3.length
  · obtain rfl : R = true := by
      rw [← HR.out]
      rcases hbg with h | h
      · rw [decide_eq_true h]; rfl
      · rw [decide_eq_true h, Bool.or_true]; rfl
    clear HR
    rcases Nat.lt_or_ge 40 p.f2.length with h1 | h1
    · have t1 : (40 : Int) < (p.f2.length : Int) := by omega
      clear hbg h1
      go_enter Tryz.func9, Tryz.ntmps9
      go_wp2_with fail
      go_ret
      exact ⟨rfl, P0.out.hb⟩
    · have t1 : ¬ (40 : Int) < (p.f2.length : Int) := by omega
      have t2 : (60 : Int) < (p.f3.length : Int) := by omega
      clear hbg h1
      go_enter Tryz.func9, Tryz.ntmps9
      go_wp2_with fail
      go_ret
      exact ⟨rfl, P0.out.hb⟩
  · have t1 : ¬ (40 : Int) < (p.f2.length : Int) := by omega
    have t2 : ¬ (60 : Int) < (p.f3.length : Int) := by omega
    have HA0 := Lib.hid (show (bigL p.f2 || p.f3.any muchS) = R by rw [← HR.out, decide_eq_false (by omega), decide_eq_false (by omega)]; rfl)
    clear HR hbg
    go_enter Tryz.func9, Tryz.ntmps9
    go_wp2_with fail
    clear t1 t2
    go_loop [20] (fun v20 => ∃ i : Nat, v20 = .int .i64 i ∧ i ≤ p.f2.length ∧ Aside0 ((bigL (p.f2.drop i) || p.f3.any muchS) = R)) (fun v20 => p.f2.length - (intOf v20).toNat)
    case atStart => exact ⟨0, rfl, by omega, ⟨HA0.out⟩⟩
    case round =>
      obtain ⟨i, rfl, hi, HA⟩ := hrel
      by_cases hlt : i < p.f2.length
      · obtain ⟨ad, e0, hx⟩ := Kd.at_string HN.out (i : Int) (by omega) (by omega)
        cases e0
        simp only [rdOf, Int.toNat_natCast] at hx
        have hx1 := (P0.out.hb.cell (World.block_lt_of_cell? w _ hx)).trans hx
        clear hx
        have HA1 := HA.out
        unfold bigL at HA1
        rw [drop_getS p.f2 i hlt, List.any_cons] at HA1
        generalize p.f2.getD i ByteArray.empty = s at *
        clear HA
        by_cases hb : 1000 < s.size
        · obtain rfl : R = true := by rw [← HA1, decide_eq_true hb]; rfl
          have t3 : (1000 : Int) < (s.size : Int) := by omega
          clear HA1
          go_wp2
          go_ret
          exact ⟨rfl, P0.out.hb⟩
        · have HA3 := Aside0.mk (show (bigL (p.f2.drop (i + 1)) || p.f3.any muchS) = R by rw [← HA1, decide_eq_false hb]; rfl)
          have t3 : ¬ (1000 : Int) < (s.size : Int) := by omega
          clear HA1
          go_wp2
          go_round
          case rel => exact ⟨i + 1, by go_num, by omega, HA3⟩
          case measure => simp [intOf]; omega
      · have hA := HA.out
        rw [List.drop_of_length_le (by omega)] at hA
        have hA : p.f3.any muchS = R := hA
        have HA2 := Aside0.mk hA
        clear hA HA
        go_wp2
        go_loopw [31] (fun v31 wr => ∃ j : Nat, v31 = .int .i64 j ∧ j ≤ p.f3.length ∧ Aside0 ((p.f3.drop j).any muchS = R) ∧ Aside0 (Bx w wr w.heap.size [.int .i64 p.f0, .int .i64 p.f1, .slice B2 p.f2.length d2, .slice B3 p.f3.length d3] 25)) (fun v31 _ => p.f3.length - (intOf v31).toNat)
        case atStart => exact ⟨0, rfl, by omega, ⟨HA2.out⟩, P0⟩
        case round =>
          clear r2 r3
          obtain ⟨j, rfl, hj, HJ, HP⟩ := hrel
          by_cases hlj : j < p.f3.length
          · obtain ⟨ad, A4, c4, A11, c11, A12, c12, e3, hx0, hx1, hx2, hx3, hx4, hx5, hx6, hx7, hx8, hx9, hx10, hx11, hx12, h4, g4, h11, g11, h12, g12⟩ := at_T34 HC.out (j : Int) (by omega) (by omega)
            cases e3
            have cc := Lib.hid (fun W hW => cM.out j _ W hW (k34_mk w _ h4 g4 h11 g11 h12 g12))
            have HA1 := HJ.out
            rw [drop_cons34 p.f3 j hlj, List.any_cons] at HA1
            simp only [rd_T34, Int.toNat_natCast] at *
            clear g4 g11 g12 h4 h11 h12 HJ
            generalize p.f3.getD j z34 = x at *
            generalize muchS x = m at *
            have HA3 := Lib.hid HA1
            clear HA1
            replace hx0 := (HP.out.hb.cell (World.block_lt_of_cell? w _ hx0)).trans hx0
            replace hx1 := (HP.out.hb.cell (World.block_lt_of_cell? w _ hx1)).trans hx1
            replace hx2 := (HP.out.hb.cell (World.block_lt_of_cell? w _ hx2)).trans hx2
            replace hx3 := (HP.out.hb.cell (World.block_lt_of_cell? w _ hx3)).trans hx3
            replace hx4 := (HP.out.hb.cell (World.block_lt_of_cell? w _ hx4)).trans hx4
            replace hx5 := (HP.out.hb.cell (World.block_lt_of_cell? w _ hx5)).trans hx5
            replace hx6 := (HP.out.hb.cell (World.block_lt_of_cell? w _ hx6)).trans hx6
            replace hx7 := (HP.out.hb.cell (World.block_lt_of_cell? w _ hx7)).trans hx7
            replace hx8 := (HP.out.hb.cell (World.block_lt_of_cell? w _ hx8)).trans hx8
            replace hx9 := (HP.out.hb.cell (World.block_lt_of_cell? w _ hx9)).trans hx9
            replace hx10 := (HP.out.hb.cell (World.block_lt_of_cell? w _ hx10)).trans hx10
            replace hx11 := (HP.out.hb.cell (World.block_lt_of_cell? w _ hx11)).trans hx11
            replace hx12 := (HP.out.hb.cell (World.block_lt_of_cell? w _ hx12)).trans hx12
            have hst := act_store0 (.int .i64 x.f0) (.int .i64 x.f1) (.int .i64 x.f2) (.int .i64 x.f3) (.slice A4 x.f4.length c4) (.int .u32 x.f5) (.int .u32 x.f6) (.int .u32 x.f7) (.int .u64 x.f8.f0) (.int .u64 x.f8.f1) (.int .i64 x.f9) (.slice A11 x.f10.length c11) (.slice A12 x.f11.length c12) (by simp [Value.oneCell'])
            have X0 := Aside0.mk (HP.out.on [.int .i64 x.f0, .int .i64 x.f1, .int .i64 x.f2, .int .i64 x.f3, .slice A4 x.f4.length c4, .int .u32 x.f5, .int .u32 x.f6, .int .u32 x.f7, .int .u64 x.f8.f0, .int .u64 x.f8.f1, .int .i64 x.f9, .slice A11 x.f10.length c11, .slice A12 x.f11.length c12] 34)
            replace HP := Aside0.mk (HP.out.push (.cells #[.int .i64 x.f0, .int .i64 x.f1, .int .i64 x.f2, .int .i64 x.f3, .slice A4 x.f4.length c4, .int .u32 x.f5, .int .u32 x.f6, .int .u32 x.f7, .int .u64 x.f8.f0, .int .u64 x.f8.f1, .int .i64 x.f9, .slice A11 x.f10.length c11, .slice A12 x.f11.length c12] 34))
            go_upto_region 12 with fail
            generalize wr.alloc (.cells #[.int .i64 x.f0, .int .i64 x.f1, .int .i64 x.f2, .int .i64 x.f3, .slice A4 x.f4.length c4, .int .u32 x.f5, .int .u32 x.f6, .int .u32 x.f7, .int .u64 x.f8.f0, .int .u64 x.f8.f1, .int .i64 x.f9, .slice A11 x.f10.length c11, .slice A12 x.f11.length c12] 34) = W7 at *
            clear hx0 hx1 hx2 hx3 hx4 hx5 hx6 hx7 hx8 hx9 hx10 hx11 hx12 hst
            have q0 := X0.out.c 0
            have q1 := X0.out.c 1
            have q2 := X0.out.c 2
            have q3 := X0.out.c 3
            have q4 := X0.out.c 4
            have q5 := X0.out.c 5
            have q6 := X0.out.c 6
            have q7 := X0.out.c 7
            have q8 := X0.out.c 8
            have q9 := X0.out.c 9
            have q10 := X0.out.c 10
            have q11 := X0.out.c 11
            have q12 := X0.out.c 12
            cases m with
            | false =>
              go_wp2_with (first
                | (go_at_call 10
                   with_reducible refine (cc.out _ HP.out.hb).mono ?_
                   rintro e v2 ⟨rfl, hb⟩
                   replace HP := Aside0.mk (HP.out.next hb)
                   clear hb)
                | fail)
              go_roundw
              case rel => exact ⟨j + 1, by go_num, by omega, ⟨by rw [← HA3.out]; rfl⟩, HP⟩
              case measure => simp [intOf]; omega
            | true =>
              obtain rfl : R = true := by rw [← HA3.out]; rfl
              go_wp2_with (first
                | (go_at_call 10
                   with_reducible refine (cc.out _ HP.out.hb).mono ?_
                   rintro e v2 ⟨rfl, hb⟩
                   replace HP := Aside0.mk (HP.out.next hb)
                   clear hb)
                | fail)
              go_ret
              exact ⟨rfl, HP.out.hb⟩
          · obtain rfl : R = false := by rw [← HJ.out, List.drop_of_length_le (by omega)]; rfl
            go_wp2
            go_ret
            exact ⟨rfl, HP.out.hb⟩
end Go.Proofs.YtpdinahdcedmkaaGreatDoor.Ext
/- ScriptChecks, the plain law: an act may be on the one side as on the other; a plan is the same as itself. -/
namespace Go.Proofs.YtpdinahdcedmkaaGreatDoor.Ext
open Go.Proofs.YtpdinahdcedmkaaGreatDoor.P
set_option linter.unusedVariables false
set_option linter.unusedSimpArgs false
open Go.RowKit Go.Proofs.YtpdinahdcedmkaaGreatDoorW.PrintWords Go.Proofs.YtpdinahdcedmkaaGreatDoorW.PrintLast Go.Proofs.YtpdinahdcedmkaaGreatDoorW.PrintMore Go.Proofs.YtpdinahdcedmkaaGreatDoor.Spec

theorem keyed_eq (x : Act) : keyedS x = !(b2R (hasS x.f0 115) x.f3 x.f5 (setsS x) x.f4.length) := by
  unfold keyedS b2R
  cases hasS x.f0 115 with
  | false =>
    rw [Bool.eq_iff_iff]
    simp
    try omega
  | true =>
    by_cases h0 : x.f3 = 0
    · have : setsS x = false := by unfold setsS; rw [h0]; rfl
      rw [this, h0]; rfl
    · have e : (x.f3 != 0) = true := bne_iff_ne.2 h0
      rw [e]
      cases setsS x <;> rfl
theorem sized_eq (d nn : Int) (n k : Nat) : sizedS d n nn k = (dataR d n && (numberR d nn && (decide (k = 0) || (hasS d 112 && decide (k ≤ 600))))) := by
  unfold sizedS sizeB dataR numberR lowS highS mostS picksS
  cases hasS d 119 <;> cases hasS d 109 <;> cases hasS d 120 <;> cases hasS d 98 <;> cases hasS d 110 <;> cases hasS d 112 <;> (rw [Bool.eq_iff_iff]; simp; try omega)
theorem placed_eq (n : Nat) (x : Act) : placedS n x = (!(b4R (hasS x.f0 100) (hasS x.f0 116) x.f1 x.f2 n) && !(b5R (hasS x.f0 107) (hasS x.f0 105) (hasS x.f0 114) x.f6 x.f7 x.f8.f0 x.f8.f1)) := by
  unfold placedS b4R b5R inS oneS
  cases hasS x.f0 100 <;> cases hasS x.f0 116 <;> cases hasS x.f0 107 <;> cases hasS x.f0 105 <;> cases hasS x.f0 114 <;> (rw [Bool.eq_iff_iff]; simp; try omega)
theorem empty_eq (d : Int) : (rowOf d).1.toList.isEmpty = (rowOf d).2.toList.isEmpty := by
  unfold rowOf
  split
  · rename_i h
    obtain ⟨n, rfl⟩ := Int.eq_ofNat_of_zero_le h.1
    have : ∀ n : Fin 18, (rowTab.getD n.val (⟨#[]⟩, ⟨#[]⟩)).1.toList.isEmpty = (rowTab.getD n.val (⟨#[]⟩, ⟨#[]⟩)).2.toList.isEmpty := by decide +kernel
    exact this ⟨n, by omega⟩
  · rfl
theorem may_eq (n : Nat) (x : Act) : mayS n x = mayR n x := by
  unfold mayS mayR
  rw [keyed_eq, sized_eq, placed_eq, empty_eq]
  generalize (rowOf x.f0).2.toList.isEmpty = a
  generalize b2R _ _ _ _ _ = b
  generalize dataR _ _ = c
  generalize numberR _ _ = e
  generalize b4R _ _ _ _ _ = f
  generalize b5R _ _ _ _ _ _ _ = g
  generalize (decide (x.f11.length = 0) || _) = h
  cases a <;> cases b <;> cases c <;> cases e <;> cases f <;> cases g <;> cases h <;> rfl
theorem check_eq (p : Plan) : checkE p = checkRE p := by
  unfold checkE checkRE checkS checkR actsS
  rw [show mayS p.f2.length = mayR p.f2.length from funext (may_eq _)]
theorem eqBy_refl {α : Type} (q : α → α → Bool) (h : ∀ x, q x x = true) : ∀ l : List α, eqBy q l l = true
  | [] => rfl
  | x :: t => by unfold eqBy; rw [h x, eqBy_refl q h t]; rfl
theorem sameA_refl (x : Act) : sameA x x = true := by
  unfold sameA
  rw [eqBy_refl lvq (fun v => by simp [lvq]), eqBy_refl boq (fun v => by simp [boq])]
  simp
theorem sameP_refl (p : Plan) : sameP p p = true := by
  unfold sameP
  rw [eqBy_refl stq (fun v => by simp [stq]), eqBy_refl sameA sameA_refl]
  simp
/-- a readable plan's numbers are of their kinds -/
structure ActOk (x : Act) : Prop where
  bd : ActBd x
  by_ : Bytes x.f10
def PlanOk (p : Plan) : Prop := ∀ i, ActOk (p.f3.getD i z34)
theorem big_names {p : Plan} (h : bigS p = false) : p.f2.length ≤ 40 ∧ ∀ i, (p.f2.getD i ByteArray.empty).size ≤ 1000 := by
  unfold bigS bigL at h
  simp only [Bool.or_eq_false_iff, decide_eq_false_iff_not, List.any_eq_false, decide_eq_true_eq] at h
  refine ⟨by omega, fun i => ?_⟩
  rw [List.getD_eq_getElem?_getD]
  by_cases hi : i < p.f2.length
  · rw [List.getElem?_eq_getElem hi]
    have := h.2.1 _ (List.getElem_mem hi)
    show (p.f2[i]).size ≤ 1000
    omega
  · rw [List.getElem?_eq_none (by omega)]
    show (0 : Nat) ≤ 1000
    omega
theorem big_acts {p : Plan} (h : bigS p = false) : ∀ i, (p.f3.getD i z34).f10.length ≤ 40000 := by
  unfold bigS at h
  simp only [Bool.or_eq_false_iff, decide_eq_false_iff_not, List.any_eq_false] at h
  intro i
  rw [List.getD_eq_getElem?_getD]
  by_cases hi : i < p.f3.length
  · rw [List.getElem?_eq_getElem hi]
    have := h.2.2 _ (List.getElem_mem hi)
    unfold muchS at this
    simp at this
    show (p.f3[i]).f10.length ≤ 40000
    omega
  · rw [List.getElem?_eq_none (by omega)]
    show (0 : Nat) ≤ 40000
    omega
theorem planBd {p : Plan} (h : bigS p = false) (hp : PlanOk p) : PlanBd p := ⟨by have := (big_names h).1; omega, fun i => by have := (big_names h).2 i; omega, fun i => (hp i).bd⟩
theorem plan_small {p : Plan} (h : bigS p = false) : ∀ i, (p.f2.getD i ByteArray.empty).size ≤ 1073741824 := fun i => by have := (big_names h).2 i; omega
theorem planBs {p : Plan} (h : bigS p = false) (hp : PlanOk p) : actBs p.f3 := fun i => ⟨(hp i).by_, by have := big_acts h i; omega⟩
end Go.Proofs.YtpdinahdcedmkaaGreatDoor.Ext
