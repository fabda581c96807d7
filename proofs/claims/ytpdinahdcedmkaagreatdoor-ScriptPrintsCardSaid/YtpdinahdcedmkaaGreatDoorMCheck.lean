import Derived.Test.YtpdinahdcedmkaaGreatDoorHPlaced
import Derived.Test.YtpdinahdcedmkaaGreatDoorSSized
/- script.may: may an act be in a plan? -/
namespace Go.Proofs.YtpdinahdcedmkaaGreatDoor.Ext
open Go.Proofs.YtpdinahdcedmkaaGreatDoor.P
set_option linter.unusedVariables false
set_option linter.unusedSimpArgs false
open Go.RowKit Go.Proofs.YtpdinahdcedmkaaGreatDoorW.PrintWords Go.Proofs.YtpdinahdcedmkaaGreatDoorW.PrintLast Go.Proofs.YtpdinahdcedmkaaGreatDoorW.PrintMore Go.Proofs.YtpdinahdcedmkaaGreatDoor.Spec

theorem c_sized (x : Act) (cs : List Value) (w : World) (hK : k34.K w x cs) :
    Calls Tryz.prog 65 #[.agg cs.toArray] w (BoolB (sizedS x.f0 x.f10.length x.f9 x.f11.length) w) := by
  obtain ⟨A4, c4, A11, c11, A12, c12, rfl, l4, g4, l11, g11, l12, g12⟩ := k34_open hK
  exact script_sized.calls x.f0 x.f1 x.f2 x.f3 A4 c4 x.f4 x.f5 x.f6 x.f7 x.f8.f0 x.f8.f1 x.f9 A11 c11 x.f10 A12 c12 x.f11 _ w g4 l4 g11 l11 g12 l12 rfl
def mayS (n : Nat) (x : Act) : Bool := !(rowOf x.f0).1.toList.isEmpty && (keyedS x && (sizedS x.f0 x.f10.length x.f9 x.f11.length && placedS n x))
set_option maxHeartbeats 8000000 in
set_option maxRecDepth 100000 in
theorem c_may (p : Plan) (x : Act) (cp cs : List Value) (w : World) (hP : k25.K w p cp) (hK : k34.K w x cs) (hx : ActBd x) :
    Calls Tryz.prog 25 #[.agg cp.toArray, .agg cs.toArray] w (BoolB (mayS p.f2.length x) w) := by
  have cN := Lib.hid (fun W => c_SName x.f0 W)
  have cQ := Lib.hid (fun W (hW : Below w.heap.size w W) => c_keyed x cs W (k34.K_below hW hK) hx)
  have cZ := Lib.hid (fun W (hW : Below w.heap.size w W) => c_sized x cs W (k34.K_below hW hK))
  have cP := Lib.hid (fun W (hW : Below w.heap.size w W) => c_placed p x cp cs W (k25.K_below hW hP) (k34.K_below hW hK))
  have P0 := Aside0.mk ((Bx.new w cp 25).push (.cells cs.toArray 34))
  have X0 := Aside0.mk ((Bx.new w cp 25).on cs 34 |>.at_ (show _ = w.heap.size + 1 by simp))
  obtain ⟨A4, c4, A11, c11, A12, c12, rfl, l4, g4, l11, g11, l12, g12⟩ := k34_open hK
  obtain ⟨B2, d2, B3, d3, rfl, m2, e2, m3, e3⟩ := k25_open hP
  clear hP hK hx g4 g11 g12 l4 l11 l12 m2 e2 m3 e3
  obtain ⟨R, hR⟩ : ∃ R, mayS p.f2.length x = R := ⟨_, rfl⟩
  rw [hR]
  unfold mayS at hR
  generalize keyedS x = bK at *
  generalize sizedS x.f0 x.f10.length x.f9 x.f11.length = bZ at *
  generalize placedS p.f2.length x = bP at *
  have HR := Lib.hid hR
  clear hR
  have HZ := Aside0.mk (hx_mk P0.out X0.out)
  clear P0 X0
  have q0 := HZ.out.x.c 0
  have q1 := HZ.out.x.c 1
  have q2 := HZ.out.x.c 2
  have q3 := HZ.out.x.c 3
  have q4 := HZ.out.x.c 4
  have q5 := HZ.out.x.c 5
  have q6 := HZ.out.x.c 6
  have q7 := HZ.out.x.c 7
  have q8 := HZ.out.x.c 8
  have q9 := HZ.out.x.c 9
  have q10 := HZ.out.x.c 10
  have q11 := HZ.out.x.c 11
  have q12 := HZ.out.x.c 12
  have r0 := HZ.out.p.c 0
  have r1 := HZ.out.p.c 1
  have r2 := HZ.out.p.c 2
  have r3 := HZ.out.p.c 3
  go_enter Tryz.func25, Tryz.ntmps25
  go_wp2_with (first
    | (go_at_call 63
       with_reducible refine (cN.out _).mono ?_
       rintro e v ⟨rfl, hb⟩
       replace HZ := Aside0.mk (HZ.out.next hb)
       clear hb
       have q0 := HZ.out.x.c 0
       have q1 := HZ.out.x.c 1
       have q2 := HZ.out.x.c 2
       have q3 := HZ.out.x.c 3
       have q4 := HZ.out.x.c 4
       have q5 := HZ.out.x.c 5
       have q6 := HZ.out.x.c 6
       have q7 := HZ.out.x.c 7
       have q8 := HZ.out.x.c 8
       have q9 := HZ.out.x.c 9
       have q10 := HZ.out.x.c 10
       have q11 := HZ.out.x.c 11
       have q12 := HZ.out.x.c 12
       have r0 := HZ.out.p.c 0
       have r1 := HZ.out.p.c 1
       have r2 := HZ.out.p.c 2
       have r3 := HZ.out.p.c 3)
    | (go_at_call 64
       with_reducible refine (cQ.out _ HZ.out.x.hb).mono ?_
       rintro e v ⟨rfl, hb⟩
       replace HZ := Aside0.mk (HZ.out.next hb)
       clear hb
       have q0 := HZ.out.x.c 0
       have q1 := HZ.out.x.c 1
       have q2 := HZ.out.x.c 2
       have q3 := HZ.out.x.c 3
       have q4 := HZ.out.x.c 4
       have q5 := HZ.out.x.c 5
       have q6 := HZ.out.x.c 6
       have q7 := HZ.out.x.c 7
       have q8 := HZ.out.x.c 8
       have q9 := HZ.out.x.c 9
       have q10 := HZ.out.x.c 10
       have q11 := HZ.out.x.c 11
       have q12 := HZ.out.x.c 12
       have r0 := HZ.out.p.c 0
       have r1 := HZ.out.p.c 1
       have r2 := HZ.out.p.c 2
       have r3 := HZ.out.p.c 3)
    | (go_at_call 65
       with_reducible refine (cZ.out _ HZ.out.x.hb).mono ?_
       rintro e v ⟨rfl, hb⟩
       replace HZ := Aside0.mk (HZ.out.next hb)
       clear hb
       have q0 := HZ.out.x.c 0
       have q1 := HZ.out.x.c 1
       have q2 := HZ.out.x.c 2
       have q3 := HZ.out.x.c 3
       have q4 := HZ.out.x.c 4
       have q5 := HZ.out.x.c 5
       have q6 := HZ.out.x.c 6
       have q7 := HZ.out.x.c 7
       have q8 := HZ.out.x.c 8
       have q9 := HZ.out.x.c 9
       have q10 := HZ.out.x.c 10
       have q11 := HZ.out.x.c 11
       have q12 := HZ.out.x.c 12
       have r0 := HZ.out.p.c 0
       have r1 := HZ.out.p.c 1
       have r2 := HZ.out.p.c 2
       have r3 := HZ.out.p.c 3)
    | (go_at_call 66
       with_reducible refine (cP.out _ HZ.out.x.hb).mono ?_
       rintro e v ⟨rfl, hb⟩
       replace HZ := Aside0.mk (HZ.out.next hb)
       clear hb)
    | fail)
  all_goals
    go_ret
    refine boolB_i ?_ HZ.out.x.hb
    rw [← HR.out]
    clear HR HZ cN cQ cZ cP q0 q1 q2 q3 q4 q5 q6 q7 q8 q9 q10 q11 q12 r0 r1 r2 r3
    simp_all
end Go.Proofs.YtpdinahdcedmkaaGreatDoor.Ext
/- script.Check: the plan's head, and each act. -/
namespace Go.Proofs.YtpdinahdcedmkaaGreatDoor.Ext
open Go.Proofs.YtpdinahdcedmkaaGreatDoor.P
set_option linter.unusedVariables false
set_option linter.unusedSimpArgs false
open Go.RowKit Go.Proofs.YtpdinahdcedmkaaGreatDoorW.PrintWords Go.Proofs.YtpdinahdcedmkaaGreatDoorW.PrintLast Go.Proofs.YtpdinahdcedmkaaGreatDoorW.PrintMore Go.Proofs.YtpdinahdcedmkaaGreatDoor.Spec

/-- a plan's data are such as can be read -/
structure PlanBd (p : Plan) : Prop where
  few : p.f2.length ≤ 1048576
  small : ∀ i, (p.f2.getD i ByteArray.empty).size ≤ 140737488351232
  acts : ∀ i, ActBd (p.f3.getD i z34)
theorem c_head (p : Plan) (cp : List Value) (w : World) (hP : k25.K w p cp) (hp : PlanBd p) :
    Calls Tryz.prog 24 #[.agg cp.toArray] w (BoolB (headedS p.f0 p.f1 p.f2) w) := by
  obtain ⟨B2, d2, B3, d3, rfl, m2, e2, m3, e3⟩ := k25_open hP
  exact c_headed p.f0 p.f1 B2 d2 p.f2 B3 p.f3.length d3 w e2 m2 hp.few hp.small
set_option maxHeartbeats 4000000 in
set_option maxRecDepth 100000 in
theorem c_clo (p : Plan) (x : Act) (cp cs : List Value) (pb : Nat) (w : World) (hP : k25.K w p cp) (hp : w.heap[pb]? = some (.cells cp.toArray 25)) (hK : k34.K w x cs) (hx : ActBd x) :
    Calls Tryz.prog 50 #[.agg cs.toArray, .pointer (some ⟨pb, 0, none⟩)] w (BoolB (!(mayS p.f2.length x)) w) := by
  have cM := Lib.hid (fun W (hW : Below w.heap.size w W) => c_may p x cp cs W (k25.K_below hW hP) (k34.K_below hW hK) hx)
  have X0 := Aside0.mk (Bx.new w cs 34)
  have P0 := Aside0.mk ((⟨hp, Below.refl _ _⟩ : Bx w w pb cp 25).push (.cells cs.toArray 34))
  obtain ⟨A4, c4, A11, c11, A12, c12, rfl, l4, g4, l11, g11, l12, g12⟩ := k34_open hK
  obtain ⟨B2, d2, B3, d3, rfl, m2, e2, m3, e3⟩ := k25_open hP
  clear hP hK hx g4 g11 g12 l4 l11 l12 m2 e2 m3 e3 hp
  generalize mayS p.f2.length x = bM at *
  have q0 := X0.out.c 0
  have q1 := X0.out.c 1
  have q2 := X0.out.c 2
  have q3 := X0.out.c 3
  have q4 := X0.out.c 4
  have q5 := X0.out.c 5
  have q6 := X0.out.c 6
  have q7 := X0.out.c 7
  have q8 := X0.out.c 8
  have q9 := X0.out.c 9
  have q10 := X0.out.c 10
  have q11 := X0.out.c 11
  have q12 := X0.out.c 12
  have r0 := P0.out.c 0
  have r1 := P0.out.c 1
  have r2 := P0.out.c 2
  have r3 := P0.out.c 3
  go_enter Tryz.func50, Tryz.ntmps50
  go_wp2_with (first
    | (go_at_call 25
       with_reducible refine (cM.out _ X0.out.hb).mono ?_
       rintro e v ⟨rfl, hb⟩
       replace X0 := Aside0.mk (X0.out.next hb)
       clear hb)
    | fail)
  go_ret
  exact ⟨rfl, X0.out.hb⟩
def actsS (n : Nat) (l : List Act) : Bool := l.all (mayS n)
theorem drop_cons34 (l : List Act) (i : Nat) (h : i < l.length) : l.drop i = l.getD i z34 :: l.drop (i + 1) := by
  rw [List.drop_eq_getElem_cons h]
  congr 1
  rw [List.getD_eq_getElem?_getD, List.getElem?_eq_getElem h]
  rfl
set_option maxHeartbeats 8000000 in
set_option maxRecDepth 100000 in
theorem c_ix (p : Plan) (cp : List Value) (A : Option Addr) (c : Nat) (l : List Act) (pb : Nat) (w : World) (hP : k25.K w p cp) (hp : w.heap[pb]? = some (.cells cp.toArray 25)) (hC : k34.C w A l.length l) (hc : l.length ≤ c) (hl : ∀ i, ActBd (l.getD i z34)) :
    Calls Tryz.prog 96 #[.slice A l.length c, .func (.func 50) #[] #[.pointer (some ⟨pb, 0, none⟩)]] w fun e w' => (∃ z : Int, e = .returned (.int .i64 z) ∧ decide (0 ≤ z) = !(actsS p.f2.length l)) ∧ Below w.heap.size w w' := by
  have hn : l.length ≤ 9223372036854775807 := hC.2.1
  have HC := Aside0.mk hC
  have cC := Lib.hid (fun i cs W (hW : Below w.heap.size w W) (hK : k34.K w (l.getD i z34) cs) => c_clo p (l.getD i z34) cp cs pb W (k25.K_below hW hP) (krow hp hW) (k34.K_below hW hK) (hl i))
  obtain ⟨R, hR⟩ : ∃ R, actsS p.f2.length l = R := ⟨_, rfl⟩
  rw [hR]
  have HR := Lib.hid hR
  clear hP hp hC hl hR
  go_enter Tryz.func96, Tryz.ntmps96
  go_wp2
  go_loopw [8] (fun v8 wr => ∃ i : Nat, v8 = .int .i64 i ∧ i ≤ l.length ∧ Aside0 (actsS p.f2.length (l.drop i) = R) ∧ Aside0 (Below w.heap.size w wr)) (fun v8 _ => l.length - (intOf v8).toNat)
  case atStart => exact ⟨0, rfl, by omega, ⟨HR.out⟩, ⟨Below.refl _ _⟩⟩
  case round =>
    obtain ⟨i, rfl, hin, HA, HB⟩ := hrel
    by_cases hlt : i < l.length
    · obtain ⟨ad, A4, c4, A11, c11, A12, c12, e3, hx0, hx1, hx2, hx3, hx4, hx5, hx6, hx7, hx8, hx9, hx10, hx11, hx12, h4, g4, h11, g11, h12, g12⟩ := at_T34 HC.out (i : Int) (by omega) (by omega)
      cases e3
      have cc := Lib.hid (cC.out i _ wr HB.out (k34_mk w _ h4 g4 h11 g11 h12 g12))
      have HA1 := HA.out
      rw [drop_cons34 l i hlt] at HA1
      simp only [rd_T34, Int.toNat_natCast] at *
      clear g4 g11 g12 h4 h11 h12
      generalize l.getD i z34 = x at *
      unfold actsS at HA1
      rw [List.all_cons] at HA1
      generalize mayS p.f2.length x = m at *
      replace hx0 := (HB.out.cell (World.block_lt_of_cell? w _ hx0)).trans hx0
      replace hx1 := (HB.out.cell (World.block_lt_of_cell? w _ hx1)).trans hx1
      replace hx2 := (HB.out.cell (World.block_lt_of_cell? w _ hx2)).trans hx2
      replace hx3 := (HB.out.cell (World.block_lt_of_cell? w _ hx3)).trans hx3
      replace hx4 := (HB.out.cell (World.block_lt_of_cell? w _ hx4)).trans hx4
      replace hx5 := (HB.out.cell (World.block_lt_of_cell? w _ hx5)).trans hx5
      replace hx6 := (HB.out.cell (World.block_lt_of_cell? w _ hx6)).trans hx6
      replace hx7 := (HB.out.cell (World.block_lt_of_cell? w _ hx7)).trans hx7
      replace hx8 := (HB.out.cell (World.block_lt_of_cell? w _ hx8)).trans hx8
      replace hx9 := (HB.out.cell (World.block_lt_of_cell? w _ hx9)).trans hx9
      replace hx10 := (HB.out.cell (World.block_lt_of_cell? w _ hx10)).trans hx10
      replace hx11 := (HB.out.cell (World.block_lt_of_cell? w _ hx11)).trans hx11
      replace hx12 := (HB.out.cell (World.block_lt_of_cell? w _ hx12)).trans hx12
      have HA3 := Lib.hid HA1
      clear HA1 HA
      cases m with
      | true =>
        go_wp2_with (first
          | (go_at_call 50
             refine cc.out.mono ?_
             rintro e v2 ⟨rfl, hb⟩
             have HB2 := Aside0.mk (HB.out.trans (hb.mono HB.out.size))
             clear hb)
          | fail)
        go_roundw
        case rel => exact ⟨i + 1, by go_num, by omega, ⟨HA3.out⟩, HB2⟩
        case measure => simp [intOf]; omega
      | false =>
        go_wp2_with (first
          | (go_at_call 50
             refine cc.out.mono ?_
             rintro e v2 ⟨rfl, hb⟩
             have HB2 := Aside0.mk (HB.out.trans (hb.mono HB.out.size))
             clear hb)
          | fail)
        go_ret
        exact ⟨⟨i, rfl, by rw [← HA3.out]; simp⟩, HB2.out⟩
    · have hR := HA.out
      rw [List.drop_of_length_le (by omega)] at hR
      have hR : true = R := hR
      subst hR
      go_wp2
      go_ret
      exact ⟨⟨-1, rfl, by first | rfl | decide⟩, HB.out⟩
theorem c_hasActs (p : Plan) (cp : List Value) (A : Option Addr) (c : Nat) (l : List Act) (pb : Nat) (w : World) (hP : k25.K w p cp) (hp : w.heap[pb]? = some (.cells cp.toArray 25)) (hC : k34.C w A l.length l) (hc : l.length ≤ c) (hl : ∀ i, ActBd (l.getD i z34)) :
    Calls Tryz.prog 49 #[.slice A l.length c, .func (.func 50) #[] #[.pointer (some ⟨pb, 0, none⟩)]] w (BoolB (!(actsS p.f2.length l)) w) := by
  have ci := Lib.hid (c_ix p cp A c l pb w hP hp hC hc hl)
  clear hP hp hC hl
  go_enter Tryz.func49, Tryz.ntmps49
  go_wp2_with (first
    | (go_at_call 96
       refine ci.out.mono ?_
       rintro e v ⟨⟨z, rfl, hz⟩, hb⟩
       have HB := Aside0.mk hb
       clear hb)
    | fail)
  go_ret
  exact ⟨by first | rfl | exact ret_bool hz, HB.out⟩
def checkS (p : Plan) : Bool := headedS p.f0 p.f1 p.f2 && (decide (p.f3.length ≤ 400) && actsS p.f2.length p.f3)
def checkE (p : Plan) : Int := if checkS p = true then 0 else 270
set_option maxHeartbeats 8000000 in
set_option maxRecDepth 100000 in
theorem c_Check (p : Plan) (cp : List Value) (w : World) (hP : k25.K w p cp) (hp : PlanBd p) :
    Calls Tryz.prog 18 #[.agg cp.toArray] w (IntB (checkE p) w) := by
  have cH := Lib.hid (fun W (hW : Below w.heap.size w W) => c_head p cp W (k25.K_below hW hP) hp)
  have P0 := Aside0.mk (Bx.new w cp 25)
  obtain ⟨B2, d2, B3, d3, hcp, m2, e2, m3, e3⟩ := k25_open hP
  have cA := Lib.hid (fun pb W (hW : Below w.heap.size w W) (hr : W.heap[pb]? = some (.cells cp.toArray 25)) => c_hasActs p cp B3 d3 p.f3 pb W (k25.K_below hW hP) hr (Kd.C_below e3 hW) m3 hp.acts)
  subst hcp
  have hn : p.f3.length ≤ 9223372036854775807 := e3.2.1
  clear hP hp m2 e2 m3 e3
  obtain ⟨R, hR⟩ : ∃ R, checkE p = R := ⟨_, rfl⟩
  rw [hR]
  unfold checkE checkS at hR
  generalize headedS p.f0 p.f1 p.f2 = bH at *
  generalize actsS p.f2.length p.f3 = bA at *
  have HR := Lib.hid hR
  clear hR
  have r0 := P0.out.c 0
  have r1 := P0.out.c 1
  have r2 := P0.out.c 2
  have r3 := P0.out.c 3
  go_enter Tryz.func18, Tryz.ntmps18
  go_wp2_with (first
    | (go_at_call 24
       with_reducible refine (cH.out _ P0.out.hb).mono ?_
       rintro e v ⟨rfl, hb⟩
       replace P0 := Aside0.mk (P0.out.next hb)
       clear hb
       have r0 := P0.out.c 0
       have r1 := P0.out.c 1
       have r2 := P0.out.c 2
       have r3 := P0.out.c 3)
    | (go_at_call 49
       with_reducible refine (cA.out _ _ P0.out.hb P0.out.row).mono ?_
       rintro e v ⟨rfl, hb⟩
       replace P0 := Aside0.mk (P0.out.next hb)
       clear hb)
    | fail)
  all_goals
    go_ret
    refine intB_i ?_ P0.out.hb
    rw [← HR.out]
    clear HR P0 cH cA r0 r1 r2 r3
    rcases Nat.lt_or_ge 400 p.f3.length with h4 | h4
    · have h5 : decide (p.f3.length ≤ 400) = false := decide_eq_false (by omega)
      have h6 : (400 < (p.f3.length : Int)) = True := eq_true (by omega)
      have h7 : ((p.f3.length : Int) ≤ 400) = False := eq_false (by omega)
      simp only [h5, h6, h7] at *
      try (clear h4 h5 h6 h7; cases bH <;> cases bA <;> simp_all)
    · have h5 : decide (p.f3.length ≤ 400) = true := decide_eq_true (by omega)
      have h6 : (400 < (p.f3.length : Int)) = False := eq_false (by omega)
      have h7 : ((p.f3.length : Int) ≤ 400) = True := eq_true (by omega)
      simp only [h5, h6, h7] at *
      try (clear h4 h5 h6 h7; cases bH <;> cases bA <;> simp_all)
end Go.Proofs.YtpdinahdcedmkaaGreatDoor.Ext
