import Derived.Test.YtpdinahdcedmkaaGreatDoorHRSame
/- script.Same and the document's Same. -/
namespace Go.Proofs.YtpdinahdcedmkaaGreatDoor.Ext
open Go.Proofs.YtpdinahdcedmkaaGreatDoor.P
set_option linter.unusedVariables false
set_option linter.unusedSimpArgs false
open Go.RowKit Go.Proofs.YtpdinahdcedmkaaGreatDoorW.PrintWords Go.Proofs.YtpdinahdcedmkaaGreatDoorW.PrintLast Go.Proofs.YtpdinahdcedmkaaGreatDoorW.PrintMore

def sameP (p q : Plan) : Bool := p.f0 == q.f0 && (p.f1 == q.f1 && (eqBy stq p.f2 q.f2 && eqBy sameA p.f3 q.f3))
set_option maxHeartbeats 8000000 in
set_option maxRecDepth 100000 in
theorem c_Same (p q : Plan) (cp cq : List Value) (w : World) (hP : k25.K w p cp) (hQ : k25.K w q cq) (hp : actBs p.f3) (hq : actBs q.f3) :
    Calls Tryz.prog 20 #[.agg cp.toArray, .agg cq.toArray] w (BoolB (sameP p q) w) := by
  have X0 := Aside0.mk ((Bx.new w cp 25).push (.cells cq.toArray 25))
  have Y0 := Aside0.mk ((Bx.new w cp 25).on cq 25 |>.at_ (show _ = w.heap.size + 1 by simp))
  obtain ⟨A2, c2, A3, c3, rfl, l2, g2, l3, g3⟩ := k25_open hP
  obtain ⟨B2, d2, B3, d3, rfl, m2, e2, m3, e3⟩ := k25_open hQ
  have cN := Lib.hid (fun W (hW : Below w.heap.size w W) => c_eqStr A2 c2 p.f2 B2 d2 q.f2 W (Kd.C_below g2 hW) (Kd.C_below e2 hW) l2 m2)
  have cA := Lib.hid (fun W (hW : Below w.heap.size w W) => c_eqActs A3 c3 p.f3 B3 d3 q.f3 W (Kd.C_below g3 hW) (Kd.C_below e3 hW) l3 m3 hp hq)
  clear hP hQ hp hq l2 g2 l3 g3 m2 e2 m3 e3
  obtain ⟨R, hR⟩ : ∃ R, sameP p q = R := ⟨_, rfl⟩
  rw [hR]
  unfold sameP at hR
  generalize eqBy stq p.f2 q.f2 = bN at *
  generalize eqBy sameA p.f3 q.f3 = bA at *
  obtain ⟨z0, e0⟩ : ∃ b, (p.f0 == q.f0) = b := ⟨_, rfl⟩
  obtain ⟨z1, e1⟩ : ∃ b, (p.f1 == q.f1) = b := ⟨_, rfl⟩
  rw [e0, e1] at hR
  have HR := Lib.hid hR
  clear hR
  have q0 := X0.out.c 0
  have r0 := Y0.out.c 0
  have q1 := X0.out.c 1
  have r1 := Y0.out.c 1
  have q2 := X0.out.c 2
  have r2 := Y0.out.c 2
  have q3 := X0.out.c 3
  have r3 := Y0.out.c 3
  go_enter Tryz.func20, Tryz.ntmps20
  go_wp2_with (first
    | (go_at_call 51
       with_reducible refine (cN.out _ X0.out.hb).mono ?_
       rintro e v ⟨rfl, hb⟩
       replace X0 := Aside0.mk (X0.out.next hb)
       replace Y0 := Aside0.mk (Y0.out.next hb)
       clear hb
       have q3 := X0.out.c 3
       have r3 := Y0.out.c 3)
    | (go_at_call 52
       with_reducible refine (cA.out _ X0.out.hb).mono ?_
       rintro e v ⟨rfl, hb⟩
       replace X0 := Aside0.mk (X0.out.next hb)
       clear hb)
    | fail)
  all_goals
    go_ret
    refine boolB_i (Eq.trans ?_ HR.out) X0.out.hb
    clear HR X0 Y0 cN cA q0 q1 q2 q3 r0 r1 r2 r3 e0 e1
    simp_all
theorem cellB {W W' : World} {a : Addr} {v : Value} (h : W.cell? a = some v) (hb : Below W.heap.size W W') : W'.cell? a = some v := (hb.cell (World.block_lt_of_cell? W _ h)).trans h
set_option maxHeartbeats 40000000 in
set_option maxRecDepth 100000 in
theorem r_Same (p q : Plan) (cp cq : List Value) (w : World) (hP : k25.K w p cp) (hQ : k25.K w q cq) (hp : actBs p.f3) (hq : actBs q.f3) :
    Calls Tryz.prog 21 #[.agg cp.toArray, .agg cq.toArray] w (BoolB (sameP p q) w) := by
  have X0 := Aside0.mk ((Bx.new w cp 25).push (.cells cq.toArray 25))
  have Y0 := Aside0.mk ((Bx.new w cp 25).on cq 25 |>.at_ (show _ = w.heap.size + 1 by simp))
  obtain ⟨A2, c2, A3, c3, rfl, l2, g2, l3, g3⟩ := k25_open hP
  obtain ⟨B2, d2, B3, d3, rfl, m2, e2, m3, e3⟩ := k25_open hQ
  have cS := Lib.hid (fun i cs ds W (hW : Below w.heap.size w W) (h1 : k34.K w (p.f3.getD i z34) cs) (h2 : k34.K w (q.f3.getD i z34) ds) => r_sameAct (p.f3.getD i z34) (q.f3.getD i z34) cs ds W (k34.K_below hW h1) (k34.K_below hW h2) (hp i) (hq i))
  have G2 := Aside0.mk g2
  have G3 := Aside0.mk g3
  have E2 := Aside0.mk e2
  have E3 := Aside0.mk e3
  have hn2 : p.f2.length ≤ 9223372036854775807 := g2.2.1
  have hn3 : p.f3.length ≤ 9223372036854775807 := g3.2.1
  clear hP hQ hp hq g2 g3 e2 e3
  obtain ⟨R, hR⟩ : ∃ R, sameP p q = R := ⟨_, rfl⟩
  rw [hR]
  unfold sameP at hR
  obtain ⟨z0, e0⟩ : ∃ b, (p.f0 == q.f0) = b := ⟨_, rfl⟩
  obtain ⟨z1, e1⟩ : ∃ b, (p.f1 == q.f1) = b := ⟨_, rfl⟩
  have f0 : (p.f0 != q.f0) = !z0 := by rw [← e0]; rfl
  have f1 : (p.f1 != q.f1) = !z1 := by rw [← e1]; rfl
  obtain ⟨y2, e2⟩ : ∃ b, (p.f2.length == q.f2.length) = b := ⟨_, rfl⟩
  obtain ⟨y3, e3⟩ : ∃ b, (p.f3.length == q.f3.length) = b := ⟨_, rfl⟩
  have f2 : ((p.f2.length : Int) != (q.f2.length : Int)) = !y2 := by rw [← e2, Bool.eq_iff_iff]; simp; omega
  have f3 : ((p.f3.length : Int) != (q.f3.length : Int)) = !y3 := by rw [← e3, Bool.eq_iff_iff]; simp; omega
  obtain ⟨P, hPe⟩ : ∃ P, (z0 && (z1 && (y2 && y3))) = P := ⟨_, rfl⟩
  have HQ := Lib.hid (show R = (P && (eqBy stq p.f2 q.f2 && eqBy sameA p.f3 q.f3)) by
    rw [← hR, ← hPe, e0, e1]
    by_cases h2 : p.f2.length = q.f2.length
    · by_cases h3 : p.f3.length = q.f3.length
      · rw [← e2, ← e3, beq_iff_eq.2 h2, beq_iff_eq.2 h3]; cases z0 <;> cases z1 <;> rfl
      · rw [eqBy_len sameA _ _ h3]; simp
    · rw [eqBy_len stq _ _ h2]; simp)
  have HL := Lib.hid (show P = true → p.f2.length = q.f2.length ∧ p.f3.length = q.f3.length from fun h => by rw [← hPe] at h; simp only [Bool.and_eq_true] at h; exact ⟨beq_iff_eq.1 (e2.trans h.2.2.1), beq_iff_eq.1 (e3.trans h.2.2.2)⟩)
  have HP := Lib.hid hPe
  clear hR hPe e2 e3
  have q0 := X0.out.c 0
  have r0 := Y0.out.c 0
  have q1 := X0.out.c 1
  have r1 := Y0.out.c 1
  have q2 := X0.out.c 2
  have r2 := Y0.out.c 2
  have q3 := X0.out.c 3
  have r3 := Y0.out.c 3
  go_enter Tryz.func21, Tryz.ntmps21
  go_upto_region 1 with fail
  go_cut [36] (fun s36 wx => s36 = .bool (!P) ∧ Aside0 (Bx w wx w.heap.size [.int .i64 p.f0, .int .i64 p.f1, .slice A2 p.f2.length c2, .slice A3 p.f3.length c3] 25) ∧ Aside0 (Bx w wx (w.heap.size + 1) [.int .i64 q.f0, .int .i64 q.f1, .slice B2 q.f2.length d2, .slice B3 q.f3.length d3] 25))
  case first =>
    cases z0 with
    | false =>
      simp only [Bool.not_false] at f0
      as_aux_lemma =>
        obtain rfl : P = false := by rw [← HP.out]; rfl
        clear HP HQ HL G2 G3 E2 E3 cS
        go_wp2_with fail
        go_meet
        exact ⟨by rfl, X0, Y0⟩
    | true =>
    simp only [Bool.not_true] at f0
    cases z1 with
    | false =>
      simp only [Bool.not_false] at f1
      as_aux_lemma =>
        obtain rfl : P = false := by rw [← HP.out]; rfl
        clear HP HQ HL G2 G3 E2 E3 cS
        go_wp2_with fail
        go_meet
        exact ⟨by rfl, X0, Y0⟩
    | true =>
    simp only [Bool.not_true] at f1
    cases y2 with
    | false =>
      simp only [Bool.not_false] at f2
      as_aux_lemma =>
        obtain rfl : P = false := by rw [← HP.out]; rfl
        clear HP HQ HL G2 G3 E2 E3 cS
        go_wp2_with fail
        go_meet
        exact ⟨by rfl, X0, Y0⟩
    | true =>
    simp only [Bool.not_true] at f2
    cases y3 with
    | false =>
      simp only [Bool.not_false] at f3
      as_aux_lemma =>
        obtain rfl : P = false := by rw [← HP.out]; rfl
        clear HP HQ HL G2 G3 E2 E3 cS
        go_wp2_with fail
        go_meet
        exact ⟨by rfl, X0, Y0⟩
    | true =>
    simp only [Bool.not_true] at f3
    as_aux_lemma =>
      obtain rfl : P = true := by rw [← HP.out]; rfl
      clear HP HQ HL G2 G3 E2 E3 cS
      go_wp2_with fail
      go_meet
      exact ⟨by rfl, X0, Y0⟩
  case rest =>
    obtain ⟨rfl, X1, Y1⟩ := hcut
    clear X0 Y0 HP q0 q1 q2 q3 r0 r1 r2 r3 e0 e1 f0 f1 f2 f3
    cases P with
    | false =>
      go_wp2
      go_ret
      exact boolB_i (by rw [HQ.out]; rfl) X1.out.hb
    | true =>
    have H2 := Lib.hid (HL.out rfl).1
    have H3 := Lib.hid (HL.out rfl).2
    have HR := Lib.hid (show R = (eqBy stq p.f2 q.f2 && eqBy sameA p.f3 q.f3) by rw [HQ.out]; rfl)
    clear HL HQ
    have q2 := X1.out.c 2
    go_wp2_with fail
    go_loopw [40] (fun v40 wr => ∃ i : Nat, i ≤ p.f2.length ∧ v40 = .int .i64 (i : Int) ∧ Aside0 (eqBy stq (p.f2.drop i) (q.f2.drop i) = eqBy stq p.f2 q.f2) ∧ Aside0 (Bx w wr w.heap.size [.int .i64 p.f0, .int .i64 p.f1, .slice A2 p.f2.length c2, .slice A3 p.f3.length c3] 25) ∧ Aside0 (Bx w wr (w.heap.size + 1) [.int .i64 q.f0, .int .i64 q.f1, .slice B2 q.f2.length d2, .slice B3 q.f3.length d3] 25)) (fun v40 _ => p.f2.length - (intOf v40).toNat)
    case atStart => exact ⟨0, by omega, rfl, ⟨rfl⟩, X1, Y1⟩
    case round =>
      clear q2 X1 Y1
      obtain ⟨i, hi, rfl, hE, X2, Y2⟩ := hrel
      by_cases hlt : i < p.f2.length
      · have htb : i < q.f2.length := by have := H2.out; omega
        obtain ⟨ad1, ea1, hx1⟩ := Kd.at_string (Kd.C_below G2.out X2.out.hb) (i : Int) (by omega) (by omega)
        obtain ⟨ad2, ea2, hx2⟩ := Kd.at_string (Kd.C_below E2.out X2.out.hb) (i : Int) (by omega) (by omega)
        subst ea1
        subst ea2
        simp only [rdOf, Int.toNat_natCast] at hx1 hx2
        have hE2 := hE.out
        rw [eqBy_drop stq ByteArray.empty p.f2 q.f2 i hlt htb] at hE2
        have HE := Aside0.mk hE2
        clear hE2 hE
        generalize p.f2.getD i ByteArray.empty = a at *
        generalize q.f2.getD i ByteArray.empty = b at *
        have q2 := X2.out.c 2
        have r2 := Y2.out.c 2
        cases hq : stq a b with
        | true =>
          have HE2 := Aside0.mk (show eqBy stq (p.f2.drop (i + 1)) (q.f2.drop (i + 1)) = eqBy stq p.f2 q.f2 by have := HE.out; rw [hq, Bool.true_and] at this; exact this)
          unfold stq at hq
          go_wp2
          go_quiet (fail)
          go_wp2
          go_roundw
          case rel => exact ⟨i + 1, by omega, by go_num, HE2, ⟨X2.out.next (pw_below_drewN (Below.refl _ _) nq)⟩, ⟨Y2.out.next (pw_below_drewN (Below.refl _ _) nq)⟩⟩
          case measure => simp [intOf]; omega
        | false =>
          obtain rfl : R = false := by rw [HR.out, ← HE.out, hq]; rfl
          unfold stq at hq
          go_wp2
          go_quiet (fail)
          go_wp2
          go_ret
          exact ⟨rfl, pw_below_drewN X2.out.hb nq⟩
      · have hE2 := hE.out
        have h2 := H2.out
        rw [eqBy_end stq _ _ _ (by omega) (by omega)] at hE2
        have HR2 := Lib.hid (show R = eqBy sameA p.f3 q.f3 by rw [HR.out, ← hE2]; rfl)
        clear hE2 hE HR h2
        have q3 := X2.out.c 3
        go_wp2_with fail
        go_loopw [58] (fun v58 wr => ∃ j : Nat, j ≤ p.f3.length ∧ v58 = .int .i64 (j : Int) ∧ Aside0 (eqBy sameA (p.f3.drop j) (q.f3.drop j) = R) ∧ Aside0 (Bx w wr w.heap.size [.int .i64 p.f0, .int .i64 p.f1, .slice A2 p.f2.length c2, .slice A3 p.f3.length c3] 25) ∧ Aside0 (Bx w wr (w.heap.size + 1) [.int .i64 q.f0, .int .i64 q.f1, .slice B2 q.f2.length d2, .slice B3 q.f3.length d3] 25)) (fun v58 _ => p.f3.length - (intOf v58).toNat)
        case atStart => exact ⟨0, by omega, rfl, ⟨HR2.out.symm⟩, X2, Y2⟩
        case round =>
          clear q3 X2 Y2
          obtain ⟨j, hj, rfl, hE, X3, Y3⟩ := hrel
          by_cases hjt : j < p.f3.length
          · have htb : j < q.f3.length := by have := H3.out; omega
            obtain ⟨pa, A4, c4, A11, c11, A12, c12, z3, hx0, hx1, hx2, hx3, hx4, hx5, hx6, hx7, hx8, hx9, hx10, hx11, hx12, h4, g4, h11, g11, h12, g12⟩ := at_T34 G3.out (j : Int) (by omega) (by omega)
            cases z3
            obtain ⟨qa, B4, d4, B11, d11, B12, d12, z3, hy0, hy1, hy2, hy3, hy4, hy5, hy6, hy7, hy8, hy9, hy10, hy11, hy12, j4, k4, j11, k11, j12, k12⟩ := at_T34 E3.out (j : Int) (by omega) (by omega)
            cases z3
            have cc := Lib.hid (fun W hW => cS.out j _ _ W hW (k34_mk w _ h4 g4 h11 g11 h12 g12) (k34_mk w _ j4 k4 j11 k11 j12 k12))
            have hE2 := hE.out
            rw [eqBy_drop sameA z34 p.f3 q.f3 j hjt htb] at hE2
            simp only [rd_T34, Int.toNat_natCast] at *
            clear g4 g11 g12 h4 h11 h12 k4 k11 k12 j4 j11 j12
            have HE := Aside0.mk hE2
            clear hE2 hE
            generalize p.f3.getD j z34 = x at *
            generalize q.f3.getD j z34 = y at *
            generalize sameA x y = m at *
            have q3 := X3.out.c 3
            have r3 := Y3.out.c 3
            have hz : (0 : Int) ≤ (j : Int) := by omega
            have hz1 : (j : Int) < (p.f3.length : Int) := by omega
            have hz2 : (j : Int) < (q.f3.length : Int) := by omega
            go_upto_region 12 with fail
            have HBd := Aside0.mk (X3.out.hb.drew)
            have Xd := Aside0.mk (X3.out.next (Below.drew (Below.refl wr.heap.size wr)))
            have Yd := Aside0.mk (Y3.out.next (Below.drew (Below.refl wr.heap.size wr)))
            clear q3 r3
            refine wp_region_held_drew (S := fun W => W.cell? ⟨w.heap.size, 3, none⟩ = some (.slice (some pa) p.f3.length c3) ∧ W.cell? ⟨w.heap.size + 1, 3, none⟩ = some (.slice (some qa) q.f3.length d3) ∧ W.cell? (pa.add (j * 13)) = some (.int .i64 x.f0) ∧ W.cell? (⟨(pa.add (j * 13)).block, (pa.add (j * 13)).off + 1, none⟩) = some (.int .i64 x.f1) ∧ W.cell? (⟨(pa.add (j * 13)).block, (pa.add (j * 13)).off + 2, none⟩) = some (.int .i64 x.f2) ∧ W.cell? (⟨(pa.add (j * 13)).block, (pa.add (j * 13)).off + 3, none⟩) = some (.int .i64 x.f3) ∧ W.cell? (⟨(pa.add (j * 13)).block, (pa.add (j * 13)).off + 4, none⟩) = some (.slice A4 x.f4.length c4) ∧ W.cell? (⟨(pa.add (j * 13)).block, (pa.add (j * 13)).off + 5, none⟩) = some (.int .u32 x.f5) ∧ W.cell? (⟨(pa.add (j * 13)).block, (pa.add (j * 13)).off + 6, none⟩) = some (.int .u32 x.f6) ∧ W.cell? (⟨(pa.add (j * 13)).block, (pa.add (j * 13)).off + 7, none⟩) = some (.int .u32 x.f7) ∧ W.cell? (⟨(pa.add (j * 13)).block, (pa.add (j * 13)).off + 8, none⟩) = some (.int .u64 x.f8.f0) ∧ W.cell? (⟨(pa.add (j * 13)).block, (pa.add (j * 13)).off + 9, none⟩) = some (.int .u64 x.f8.f1) ∧ W.cell? (⟨(pa.add (j * 13)).block, (pa.add (j * 13)).off + 10, none⟩) = some (.int .i64 x.f9) ∧ W.cell? (⟨(pa.add (j * 13)).block, (pa.add (j * 13)).off + 11, none⟩) = some (.slice A11 x.f10.length c11) ∧ W.cell? (⟨(pa.add (j * 13)).block, (pa.add (j * 13)).off + 12, none⟩) = some (.slice A12 x.f11.length c12) ∧ W.cell? (qa.add (j * 13)) = some (.int .i64 y.f0) ∧ W.cell? (⟨(qa.add (j * 13)).block, (qa.add (j * 13)).off + 1, none⟩) = some (.int .i64 y.f1) ∧ W.cell? (⟨(qa.add (j * 13)).block, (qa.add (j * 13)).off + 2, none⟩) = some (.int .i64 y.f2) ∧ W.cell? (⟨(qa.add (j * 13)).block, (qa.add (j * 13)).off + 3, none⟩) = some (.int .i64 y.f3) ∧ W.cell? (⟨(qa.add (j * 13)).block, (qa.add (j * 13)).off + 4, none⟩) = some (.slice B4 y.f4.length d4) ∧ W.cell? (⟨(qa.add (j * 13)).block, (qa.add (j * 13)).off + 5, none⟩) = some (.int .u32 y.f5) ∧ W.cell? (⟨(qa.add (j * 13)).block, (qa.add (j * 13)).off + 6, none⟩) = some (.int .u32 y.f6) ∧ W.cell? (⟨(qa.add (j * 13)).block, (qa.add (j * 13)).off + 7, none⟩) = some (.int .u32 y.f7) ∧ W.cell? (⟨(qa.add (j * 13)).block, (qa.add (j * 13)).off + 8, none⟩) = some (.int .u64 y.f8.f0) ∧ W.cell? (⟨(qa.add (j * 13)).block, (qa.add (j * 13)).off + 9, none⟩) = some (.int .u64 y.f8.f1) ∧ W.cell? (⟨(qa.add (j * 13)).block, (qa.add (j * 13)).off + 10, none⟩) = some (.int .i64 y.f9) ∧ W.cell? (⟨(qa.add (j * 13)).block, (qa.add (j * 13)).off + 11, none⟩) = some (.slice B11 y.f10.length d11) ∧ W.cell? (⟨(qa.add (j * 13)).block, (qa.add (j * 13)).off + 12, none⟩) = some (.slice B12 y.f11.length d12)) (by kernel_rfl) (⟨Xd.out.c 3, Yd.out.c 3, (HBd.out.cell (World.block_lt_of_cell? w _ hx0)).trans hx0, (HBd.out.cell (World.block_lt_of_cell? w _ hx1)).trans hx1, (HBd.out.cell (World.block_lt_of_cell? w _ hx2)).trans hx2, (HBd.out.cell (World.block_lt_of_cell? w _ hx3)).trans hx3, (HBd.out.cell (World.block_lt_of_cell? w _ hx4)).trans hx4, (HBd.out.cell (World.block_lt_of_cell? w _ hx5)).trans hx5, (HBd.out.cell (World.block_lt_of_cell? w _ hx6)).trans hx6, (HBd.out.cell (World.block_lt_of_cell? w _ hx7)).trans hx7, (HBd.out.cell (World.block_lt_of_cell? w _ hx8)).trans hx8, (HBd.out.cell (World.block_lt_of_cell? w _ hx9)).trans hx9, (HBd.out.cell (World.block_lt_of_cell? w _ hx10)).trans hx10, (HBd.out.cell (World.block_lt_of_cell? w _ hx11)).trans hx11, (HBd.out.cell (World.block_lt_of_cell? w _ hx12)).trans hx12, (HBd.out.cell (World.block_lt_of_cell? w _ hy0)).trans hy0, (HBd.out.cell (World.block_lt_of_cell? w _ hy1)).trans hy1, (HBd.out.cell (World.block_lt_of_cell? w _ hy2)).trans hy2, (HBd.out.cell (World.block_lt_of_cell? w _ hy3)).trans hy3, (HBd.out.cell (World.block_lt_of_cell? w _ hy4)).trans hy4, (HBd.out.cell (World.block_lt_of_cell? w _ hy5)).trans hy5, (HBd.out.cell (World.block_lt_of_cell? w _ hy6)).trans hy6, (HBd.out.cell (World.block_lt_of_cell? w _ hy7)).trans hy7, (HBd.out.cell (World.block_lt_of_cell? w _ hy8)).trans hy8, (HBd.out.cell (World.block_lt_of_cell? w _ hy9)).trans hy9, (HBd.out.cell (World.block_lt_of_cell? w _ hy10)).trans hy10, (HBd.out.cell (World.block_lt_of_cell? w _ hy11)).trans hy11, (HBd.out.cell (World.block_lt_of_cell? w _ hy12)).trans hy12⟩) (fun hHeld => ?_)
            apply tkH 0
            apply tkH 1
            apply tkH 2
            apply tkH 3
            apply tkH 4
            apply tkH 5
            apply tkH 6
            apply tkH 7
            apply tkH 8
            apply tkH 9
            refine wpAnyH_ready (rs := [10]) (by kernel_rfl) (by simp) ?_
            refine AllReadyH.cons rfl (fun K hK => ?_) AllReadyH.nil
            go_simp
            go_at_call 15
            with_reducible refine (cc.out _ Xd.out.hb).mono ?_
            rintro e u1 ⟨rfl, hbz⟩
            try go_wp2_with fail
            have X4 := Aside0.mk (Xd.out.next hbz)
            have Y4 := Aside0.mk (Yd.out.next hbz)
            refine hK.out _ _ (⟨cellB hHeld.1 hbz, cellB hHeld.2.1 hbz, cellB hHeld.2.2.1 hbz, cellB hHeld.2.2.2.1 hbz, cellB hHeld.2.2.2.2.1 hbz, cellB hHeld.2.2.2.2.2.1 hbz, cellB hHeld.2.2.2.2.2.2.1 hbz, cellB hHeld.2.2.2.2.2.2.2.1 hbz, cellB hHeld.2.2.2.2.2.2.2.2.1 hbz, cellB hHeld.2.2.2.2.2.2.2.2.2.1 hbz, cellB hHeld.2.2.2.2.2.2.2.2.2.2.1 hbz, cellB hHeld.2.2.2.2.2.2.2.2.2.2.2.1 hbz, cellB hHeld.2.2.2.2.2.2.2.2.2.2.2.2.1 hbz, cellB hHeld.2.2.2.2.2.2.2.2.2.2.2.2.2.1 hbz, cellB hHeld.2.2.2.2.2.2.2.2.2.2.2.2.2.2.1 hbz, cellB hHeld.2.2.2.2.2.2.2.2.2.2.2.2.2.2.2.1 hbz, cellB hHeld.2.2.2.2.2.2.2.2.2.2.2.2.2.2.2.2.1 hbz, cellB hHeld.2.2.2.2.2.2.2.2.2.2.2.2.2.2.2.2.2.1 hbz, cellB hHeld.2.2.2.2.2.2.2.2.2.2.2.2.2.2.2.2.2.2.1 hbz, cellB hHeld.2.2.2.2.2.2.2.2.2.2.2.2.2.2.2.2.2.2.2.1 hbz, cellB hHeld.2.2.2.2.2.2.2.2.2.2.2.2.2.2.2.2.2.2.2.2.1 hbz, cellB hHeld.2.2.2.2.2.2.2.2.2.2.2.2.2.2.2.2.2.2.2.2.2.1 hbz, cellB hHeld.2.2.2.2.2.2.2.2.2.2.2.2.2.2.2.2.2.2.2.2.2.2.1 hbz, cellB hHeld.2.2.2.2.2.2.2.2.2.2.2.2.2.2.2.2.2.2.2.2.2.2.2.1 hbz, cellB hHeld.2.2.2.2.2.2.2.2.2.2.2.2.2.2.2.2.2.2.2.2.2.2.2.2.1 hbz, cellB hHeld.2.2.2.2.2.2.2.2.2.2.2.2.2.2.2.2.2.2.2.2.2.2.2.2.2.1 hbz, cellB hHeld.2.2.2.2.2.2.2.2.2.2.2.2.2.2.2.2.2.2.2.2.2.2.2.2.2.2.1 hbz, cellB hHeld.2.2.2.2.2.2.2.2.2.2.2.2.2.2.2.2.2.2.2.2.2.2.2.2.2.2.2 hbz⟩) ?_
            clear hHeld hbz hK K
            intro hHeld
            try simp only [Act.put, List.setIfInBounds_toArray, List.set_cons_zero, List.set_cons_succ, List.getElem_toArray, List.getElem_cons_succ, List.getElem_cons_zero]
            apply tkH 11
            refine wpAnyH_done (by kernel_rfl) ?_ _
            cases m with
            | true =>
              go_wp2
              go_roundw
              case rel =>
                repeat apply Exists.intro
                refine ⟨?_, rfl⟩
                exact ⟨j + 1, by omega, by go_num, ⟨by have := HE.out; rw [Bool.true_and] at this; exact this⟩, X4, Y4⟩
              case measure => simp [intOf]; omega
            | false =>
              obtain rfl : R = false := HE.out.symm
              go_wp2
              go_ret
              exact ⟨rfl, X4.out.hb⟩
          · have h3 := H3.out
            obtain rfl : R = true := by rw [← hE.out, eqBy_end _ _ _ _ (by omega) (by omega)]
            clear h3
            go_wp2
            go_ret
            exact ⟨rfl, X3.out.hb⟩
end Go.Proofs.YtpdinahdcedmkaaGreatDoor.Ext

