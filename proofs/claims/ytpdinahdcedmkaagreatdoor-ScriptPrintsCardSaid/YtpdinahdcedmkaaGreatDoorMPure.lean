import Derived.Test.YtpdinahdcedmkaaGreatDoorMRHead
import Derived.Test.YtpdinahdcedmkaaGreatDoorHRMay
import Derived.Test.YtpdinahdcedmkaaGreatDoorMSayS
/- the document's Check. -/
namespace Go.Proofs.YtpdinahdcedmkaaGreatDoor.Ext
open Go.Proofs.YtpdinahdcedmkaaGreatDoor.P
set_option linter.unusedVariables false
set_option linter.unusedSimpArgs false
open Go.RowKit Go.Proofs.YtpdinahdcedmkaaGreatDoorW.PrintWords Go.Proofs.YtpdinahdcedmkaaGreatDoorW.PrintLast Go.Proofs.YtpdinahdcedmkaaGreatDoorW.PrintMore

def checkR (p : Plan) : Bool := headedS p.f0 p.f1 p.f2 && (decide (p.f3.length ≤ 400) && p.f3.all (mayR p.f2.length))
def checkRE (p : Plan) : Int := if checkR p = true then 0 else 270
set_option maxHeartbeats 8000000 in
set_option maxRecDepth 100000 in
theorem r_Check (p : Plan) (cp : List Value) (w : World) (hP : k25.K w p cp) (hp : PlanBd p) (hsm : ∀ i, (p.f2.getD i ByteArray.empty).size ≤ 1073741824) :
    Calls Tryz.prog 19 #[.agg cp.toArray] w (IntB (checkRE p) w) := by
  have cH := Lib.hid (fun W (hW : Below w.heap.size w W) => r_head p cp W (k25.K_below hW hP) hp hsm)
  have cM := Lib.hid (fun i cs W (hW : Below w.heap.size w W) (h1 : k34.K w (p.f3.getD i z34) cs) => r_may p (p.f3.getD i z34) cp cs W (k25.K_below hW hP) (k34.K_below hW h1) (hp.acts i))
  have P0 := Aside0.mk (Bx.new w cp 25)
  obtain ⟨B2, d2, B3, d3, rfl, m2, e2, m3, e3⟩ := k25_open hP
  have hn : p.f3.length ≤ 9223372036854775807 := e3.2.1
  have HC := Aside0.mk e3
  have hle := m3
  clear hP hp hsm m2 e2 m3 e3
  obtain ⟨R, hR⟩ : ∃ R, checkRE p = R := ⟨_, rfl⟩
  rw [hR]
  unfold checkRE checkR at hR
  generalize headedS p.f0 p.f1 p.f2 = bH at *
  have HR := Lib.hid hR
  clear hR
  have r0 := P0.out.c 0
  have r1 := P0.out.c 1
  have r2 := P0.out.c 2
  have r3 := P0.out.c 3
  cases bH with
  | false =>
    obtain rfl : R = 270 := by rw [← HR.out]; rfl
    go_enter Tryz.func19, Tryz.ntmps19
    go_wp2_with (first
      | (go_at_call 27
         with_reducible refine (cH.out _ P0.out.hb).mono ?_
         rintro e v ⟨rfl, hb⟩
         replace P0 := Aside0.mk (P0.out.next hb)
         clear hb
         have r3 := P0.out.c 3)
      | fail)
    go_ret
    exact ⟨rfl, P0.out.hb⟩
  | true =>
  by_cases hlen : p.f3.length ≤ 400
  · have t1 : ¬ 400 < (p.f3.length : Int) := by omega
    have HA0 := Lib.hid (show (if p.f3.all (mayR p.f2.length) = true then (0 : Int) else 270) = R by rw [← HR.out, decide_eq_true hlen]; rfl)
    clear HR hlen
    go_enter Tryz.func19, Tryz.ntmps19
    go_wp2_with (first
      | (go_at_call 27
         with_reducible refine (cH.out _ P0.out.hb).mono ?_
         rintro e v ⟨rfl, hb⟩
         replace P0 := Aside0.mk (P0.out.next hb)
         clear hb
         have r3 := P0.out.c 3)
      | fail)
    go_loopw [17] (fun v17 wr => ∃ i : Nat, v17 = .int .i64 i ∧ i ≤ p.f3.length ∧ Aside0 ((if (p.f3.drop i).all (mayR p.f2.length) = true then (0 : Int) else 270) = R) ∧ Aside0 (Bx w wr w.heap.size [.int .i64 p.f0, .int .i64 p.f1, .slice B2 p.f2.length d2, .slice B3 p.f3.length d3] 25)) (fun v17 _ => p.f3.length - (intOf v17).toNat)
    case atStart => exact ⟨0, rfl, by omega, ⟨HA0.out⟩, P0⟩
    case round =>
      clear r0 r1 r2 r3
      obtain ⟨i, rfl, hi, HA, HP⟩ := hrel
      by_cases hlt : i < p.f3.length
      · obtain ⟨ad, A4, c4, A11, c11, A12, c12, e3, hx0, hx1, hx2, hx3, hx4, hx5, hx6, hx7, hx8, hx9, hx10, hx11, hx12, h4, g4, h11, g11, h12, g12⟩ := at_T34 HC.out (i : Int) (by omega) (by omega)
        cases e3
        have cc := Lib.hid (fun W hW => cM.out i _ W hW (k34_mk w _ h4 g4 h11 g11 h12 g12))
        have HA1 := HA.out
        rw [drop_cons34 p.f3 i hlt, List.all_cons] at HA1
        simp only [rd_T34, Int.toNat_natCast] at *
        clear g4 g11 g12 h4 h11 h12 HA
        generalize p.f3.getD i z34 = x at *
        generalize mayR p.f2.length x = m at *
        have HA3 := Lib.hid HA1
        clear HA1
        replace hx0 := (HP.out.hb.cell (World.block_lt_of_cell? w _ hx0)).trans hx0
        replace hx1 := (HP.out.hb.cell (World.block_lt_of_cell? w _ hx1)).trans hx1
        replace hx2 := (HP.out.hb.cell (World.block_lt_of_cell? w _ hx2)).trans hx2
        replace hx3 := (HP.out.hb.cell (World.block_lt_of_cell? w _ hx3)).trans hx3
        replace hx4 := (HP.out.hb.cell (World.block_lt_of_cell? w _ hx4)).trans hx4
        replace hx5 := (HP.out.hb.cell (World.block_lt_of_cell? w _ hx5)).trans hx5
        replace hx6 := (HP.out.hb.cell (World.block_lt_of_cell? w _ hx6)).trans hx6
        replace hx7 := (HP.out.hb.cell (World.block_lt_of_cell? w _ hx7)).trans hx7
        replace hx8 := (HP.out.hb.cell (World.block_lt_of_cell? w _ hx8)).trans hx8
        replace hx9 := (HP.out.hb.cell (World.block_lt_of_cell? w _ hx9)).trans hx9
        replace hx10 := (HP.out.hb.cell (World.block_lt_of_cell? w _ hx10)).trans hx10
        replace hx11 := (HP.out.hb.cell (World.block_lt_of_cell? w _ hx11)).trans hx11
        replace hx12 := (HP.out.hb.cell (World.block_lt_of_cell? w _ hx12)).trans hx12
        have hst := act_store0 (.int .i64 x.f0) (.int .i64 x.f1) (.int .i64 x.f2) (.int .i64 x.f3) (.slice A4 x.f4.length c4) (.int .u32 x.f5) (.int .u32 x.f6) (.int .u32 x.f7) (.int .u64 x.f8.f0) (.int .u64 x.f8.f1) (.int .i64 x.f9) (.slice A11 x.f10.length c11) (.slice A12 x.f11.length c12) (by simp [Value.oneCell'])
        have X0 := Aside0.mk (HP.out.on [.int .i64 x.f0, .int .i64 x.f1, .int .i64 x.f2, .int .i64 x.f3, .slice A4 x.f4.length c4, .int .u32 x.f5, .int .u32 x.f6, .int .u32 x.f7, .int .u64 x.f8.f0, .int .u64 x.f8.f1, .int .i64 x.f9, .slice A11 x.f10.length c11, .slice A12 x.f11.length c12] 34)
        replace HP := Aside0.mk (HP.out.push (.cells #[.int .i64 x.f0, .int .i64 x.f1, .int .i64 x.f2, .int .i64 x.f3, .slice A4 x.f4.length c4, .int .u32 x.f5, .int .u32 x.f6, .int .u32 x.f7, .int .u64 x.f8.f0, .int .u64 x.f8.f1, .int .i64 x.f9, .slice A11 x.f10.length c11, .slice A12 x.f11.length c12] 34))
        go_upto_region 6 with fail
        generalize wr.alloc (.cells #[.int .i64 x.f0, .int .i64 x.f1, .int .i64 x.f2, .int .i64 x.f3, .slice A4 x.f4.length c4, .int .u32 x.f5, .int .u32 x.f6, .int .u32 x.f7, .int .u64 x.f8.f0, .int .u64 x.f8.f1, .int .i64 x.f9, .slice A11 x.f10.length c11, .slice A12 x.f11.length c12] 34) = W7 at *
        clear hx0 hx1 hx2 hx3 hx4 hx5 hx6 hx7 hx8 hx9 hx10 hx11 hx12 hst
        have q0 := X0.out.c 0
        have q1 := X0.out.c 1
        have q2 := X0.out.c 2
        have q3 := X0.out.c 3
        have q4 := X0.out.c 4
        have q5 := X0.out.c 5
        have q6 := X0.out.c 6
        have q7 := X0.out.c 7
        have q8 := X0.out.c 8
        have q9 := X0.out.c 9
        have q10 := X0.out.c 10
        have q11 := X0.out.c 11
        have q12 := X0.out.c 12
        have r0 := HP.out.c 0
        have r1 := HP.out.c 1
        have r2 := HP.out.c 2
        have r3 := HP.out.c 3
        cases m with
        | true =>
          go_wp2_with (first
            | (go_at_call 28
               with_reducible refine (cc.out _ HP.out.hb).mono ?_
               rintro e v2 ⟨rfl, hb⟩
               replace HP := Aside0.mk (HP.out.next hb)
               clear hb)
            | fail)
          go_roundw
          case rel => exact ⟨i + 1, by go_num, by omega, ⟨by rw [← HA3.out]; rfl⟩, HP⟩
          case measure => simp [intOf]; omega
        | false =>
          obtain rfl : R = 270 := by rw [← HA3.out]; rfl
          go_wp2_with (first
            | (go_at_call 28
               with_reducible refine (cc.out _ HP.out.hb).mono ?_
               rintro e v2 ⟨rfl, hb⟩
               replace HP := Aside0.mk (HP.out.next hb)
               clear hb)
            | fail)
          go_ret
          exact ⟨rfl, HP.out.hb⟩
      · obtain rfl : R = 0 := by rw [← HA.out, List.drop_of_length_le (by omega)]; rfl
        go_wp2
        go_ret
        exact ⟨rfl, HP.out.hb⟩
  · have t1 : 400 < (p.f3.length : Int) := by omega
    obtain rfl : R = 270 := by rw [← HR.out, decide_eq_false hlen]; rfl
    go_enter Tryz.func19, Tryz.ntmps19
    go_wp2_with (first
      | (go_at_call 27
         with_reducible refine (cH.out _ P0.out.hb).mono ?_
         rintro e v ⟨rfl, hb⟩
         replace P0 := Aside0.mk (P0.out.next hb)
         clear hb
         have r3 := P0.out.c 3)
      | fail)
    go_ret
    exact ⟨rfl, P0.out.hb⟩
end Go.Proofs.YtpdinahdcedmkaaGreatDoor.Ext
/- An act may be on the one side as on the other; what is known of a readable plan that is not big. -/
namespace Go.Proofs.YtpdinahdcedmkaaGreatDoor.Ext
open Go.Proofs.YtpdinahdcedmkaaGreatDoor.P
set_option linter.unusedVariables false
set_option linter.unusedSimpArgs false
open Go.RowKit Go.Proofs.YtpdinahdcedmkaaGreatDoorW.PrintWords Go.Proofs.YtpdinahdcedmkaaGreatDoorW.PrintLast Go.Proofs.YtpdinahdcedmkaaGreatDoorW.PrintMore Go.Proofs.YtpdinahdcedmkaaGreatDoor.Spec

theorem keyed_eq (x : Act) : keyedS x = !(b2R (hasS x.f0 115) x.f3 x.f5 (setsS x) x.f4.length) := by
  unfold keyedS b2R
  cases hasS x.f0 115 with
  | false =>
    rw [Bool.eq_iff_iff]
    simp
    try omega
  | true =>
    by_cases h0 : x.f3 = 0
    · have : setsS x = false := by unfold setsS; rw [h0]; rfl
      rw [this, h0]; rfl
    · have e : (x.f3 != 0) = true := bne_iff_ne.2 h0
      rw [e]
      cases setsS x <;> rfl
theorem sized_eq (d nn : Int) (n k : Nat) : sizedS d n nn k = (dataR d n && (numberR d nn && (decide (k = 0) || (hasS d 112 && decide (k ≤ 600))))) := by
  unfold sizedS sizeB dataR numberR lowS highS mostS picksS
  cases hasS d 119 <;> cases hasS d 109 <;> cases hasS d 120 <;> cases hasS d 98 <;> cases hasS d 110 <;> cases hasS d 112 <;> (rw [Bool.eq_iff_iff]; simp; try omega)
theorem placed_eq (n : Nat) (x : Act) : placedS n x = (!(b4R (hasS x.f0 100) (hasS x.f0 116) x.f1 x.f2 n) && !(b5R (hasS x.f0 107) (hasS x.f0 105) (hasS x.f0 114) x.f6 x.f7 x.f8.f0 x.f8.f1)) := by
  unfold placedS b4R b5R inS oneS
  cases hasS x.f0 100 <;> cases hasS x.f0 116 <;> cases hasS x.f0 107 <;> cases hasS x.f0 105 <;> cases hasS x.f0 114 <;> (rw [Bool.eq_iff_iff]; simp; try omega)
theorem empty_eq (d : Int) : (rowOf d).1.toList.isEmpty = (rowOf d).2.toList.isEmpty := by
  unfold rowOf
  split
  · rename_i h
    obtain ⟨n, rfl⟩ := Int.eq_ofNat_of_zero_le h.1
    have : ∀ n : Fin 18, (rowTab.getD n.val (⟨#[]⟩, ⟨#[]⟩)).1.toList.isEmpty = (rowTab.getD n.val (⟨#[]⟩, ⟨#[]⟩)).2.toList.isEmpty := by decide +kernel
    exact this ⟨n, by omega⟩
  · rfl
theorem may_eq (n : Nat) (x : Act) : mayS n x = mayR n x := by
  unfold mayS mayR
  rw [keyed_eq, sized_eq, placed_eq, empty_eq]
  generalize (rowOf x.f0).2.toList.isEmpty = a
  generalize b2R _ _ _ _ _ = b
  generalize dataR _ _ = c
  generalize numberR _ _ = e
  generalize b4R _ _ _ _ _ = f
  generalize b5R _ _ _ _ _ _ _ = g
  generalize (decide (x.f11.length = 0) || _) = h
  cases a <;> cases b <;> cases c <;> cases e <;> cases f <;> cases g <;> cases h <;> rfl
theorem check_eq (p : Plan) : checkE p = checkRE p := by
  unfold checkE checkRE checkS checkR actsS
  rw [show mayS p.f2.length = mayR p.f2.length from funext (may_eq _)]
/-- a readable plan's numbers are of their kinds -/
def u64P (n : Int) : Prop := 0 ≤ n ∧ n < 18446744073709551616
structure ActOk (x : Act) : Prop where
  bd : ActBd x
  by_ : Bytes x.f10
  rg : u64P x.f8.f0 ∧ u64P x.f8.f1
  ky : u32P x.f6
  td : u32P x.f7
  ix : ∀ n ∈ [x.f0, x.f1, x.f2, x.f3, x.f9], -9223372036854775808 ≤ n ∧ n ≤ 9223372036854775807
structure PlanOk (p : Plan) : Prop where
  ac : ∀ i, ActOk (p.f3.getD i z34)
  sr : ∀ n ∈ [p.f0, p.f1], -9223372036854775808 ≤ n ∧ n ≤ 9223372036854775807
theorem big_names {p : Plan} (h : bigS p = false) : p.f2.length ≤ 40 ∧ ∀ i, (p.f2.getD i ByteArray.empty).size ≤ 1000 := by
  unfold bigS bigL at h
  simp only [Bool.or_eq_false_iff, decide_eq_false_iff_not, List.any_eq_false, decide_eq_true_eq] at h
  refine ⟨by omega, fun i => ?_⟩
  rw [List.getD_eq_getElem?_getD]
  by_cases hi : i < p.f2.length
  · rw [List.getElem?_eq_getElem hi]
    have := h.2.1 _ (List.getElem_mem hi)
    show (p.f2[i]).size ≤ 1000
    omega
  · rw [List.getElem?_eq_none (by omega)]
    show (0 : Nat) ≤ 1000
    omega
theorem planBd {p : Plan} (h : bigS p = false) (hp : PlanOk p) : PlanBd p := ⟨by have := (big_names h).1; omega, fun i => by have := (big_names h).2 i; omega, fun i => (hp.ac i).bd⟩
end Go.Proofs.YtpdinahdcedmkaaGreatDoor.Ext
