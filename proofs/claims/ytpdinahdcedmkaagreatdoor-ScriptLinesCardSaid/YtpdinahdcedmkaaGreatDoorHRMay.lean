import Derived.Test.YtpdinahdcedmkaaGreatDoorHReg3
import Derived.Test.YtpdinahdcedmkaaGreatDoorHReg8
set_option linter.unusedVariables false
set_option linter.unusedSimpArgs false
set_option maxHeartbeats 40000000
set_option maxRecDepth 100000
/- the document's May: may an act be in a plan? -/
namespace Go.Proofs.YtpdinahdcedmkaaGreatDoor.Ext
open Go.Proofs.YtpdinahdcedmkaaGreatDoor.P
open Go.RowKit YtpdinahdcedmkaaGreatDoorW.PrintWords YtpdinahdcedmkaaGreatDoorW.PrintLast YtpdinahdcedmkaaGreatDoorW.PrintMore Go.Proofs.YtpdinahdcedmkaaGreatDoor.Spec
def clsKIR (d : Int) : Bool := (hasS d 107 && (!hasS d 105 && !hasS d 114)) || ((hasS d 107 && (!hasS d 105 && hasS d 114)) || ((!hasS d 107 && (hasS d 105 && !hasS d 114)) || (!hasS d 107 && (!hasS d 105 && !hasS d 114))))
theorem cls_kir (d : Int) : (hasS d 107 = true /\ hasS d 105 = false /\ hasS d 114 = false) \/ (hasS d 107 = true /\ hasS d 105 = false /\ hasS d 114 = true) \/ (hasS d 107 = false /\ hasS d 105 = true /\ hasS d 114 = false) \/ (hasS d 107 = false /\ hasS d 105 = false /\ hasS d 114 = false) := by
 have h : clsKIR d = true := by
  by_cases h : 0 <= d /\ d < 18
  · obtain ⟨n, rfl⟩ := Int.eq_ofNat_of_zero_le h.1
    have : ∀ n : Fin 18, clsKIR ((n.val : Nat) : Int) = true := by decide +kernel
    exact this ⟨n, by omega⟩
  · have e : ∀ c, hasS d c = hasS 0 c := fun c => by unfold hasS rowOf; rw [if_neg h, if_pos ⟨by omega, by omega⟩]; rfl
    unfold clsKIR
    rw [e, e, e]
    decide +kernel
 unfold clsKIR at h
 revert h
 cases hasS d 107 <;> cases hasS d 105 <;> cases hasS d 114 <;> simp
theorem r_may (p : Plan) (x : Act) (cp cs : List Value) (w : World) (hP : k25.K w p cp) (hK : k34.K w x cs) (hx : ActBd x) :
 Calls Tryz.prog 28 #[.agg cp.toArray, .agg cs.toArray] w (BoolB (mayR p.f2.length x) w) := by
 have cN := Lib.hid (fun W => r_Has x.f0 W)
 have cD := Lib.hid (fun W (hW : Below w.heap.size w W) => r_data x cs W (k34.K_below hW hK))
 have cU := Lib.hid (fun W (hW : Below w.heap.size w W) => r_number x cs W (k34.K_below hW hK))
 have cS := Lib.hid (fun W (hW : Below w.heap.size w W) => r_sets x cs W (k34.K_below hW hK) hx)
 have cO := Lib.hid (fun W => r_one x.f8.f0 x.f8.f1 W)
 have lS := Lib.hid (fun W => r_has x.f0 115 115 (by decide) (by decide) W)
 have lD := Lib.hid (fun W => r_has x.f0 100 100 (by decide) (by decide) W)
 have lT := Lib.hid (fun W => r_has x.f0 116 116 (by decide) (by decide) W)
 have lK := Lib.hid (fun W => r_has x.f0 107 107 (by decide) (by decide) W)
 have lI := Lib.hid (fun W => r_has x.f0 105 105 (by decide) (by decide) W)
 have lR := Lib.hid (fun W => r_has x.f0 114 114 (by decide) (by decide) W)
 have lP := Lib.hid (fun W => r_has x.f0 112 112 (by decide) (by decide) W)
 have P0 := Zz.mk ((Bx.new w cp 25).push (.cells cs.toArray 34))
 have X0 := Zz.mk ((Bx.new w cp 25).on cs 34 |>.at_ (show _ = w.heap.size + 1 by simp))
 obtain ⟨A4, c4, A11, c11, A12, c12, rfl, l4, g4, l11, g11, l12, g12⟩ := k34_open hK
 obtain ⟨B2, d2, B3, d3, rfl, m2, e2, m3, e3⟩ := k25_open hP
 clear hP hK hx g4 g11 g12 l4 l11 l12 m2 e2 m3 e3
 obtain ⟨R, hR⟩ : ∃ R, mayR p.f2.length x = R := ⟨_, rfl⟩
 rw [hR]
 unfold mayR at hR
 generalize dataR x.f0 x.f10.length = bD at *
 generalize numberR x.f0 x.f9 = bN at *
 generalize setsS x = bS at *
 have HC := Lib.hid (cls_kir x.f0)
 generalize hasS x.f0 115 = vS at *
 generalize hasS x.f0 100 = vD at *
 generalize hasS x.f0 116 = vT at *
 generalize hasS x.f0 107 = vK at *
 generalize hasS x.f0 105 = vI at *
 generalize hasS x.f0 114 = vR at *
 generalize hasS x.f0 112 = vP at *
 generalize x.f1 = dev at *
 generalize x.f2 = dto at *
 generalize x.f3 = kd at *
 generalize x.f4.length = n4 at *
 generalize x.f5 = xm at *
 generalize x.f6 = key at *
 generalize x.f7 = tid at *
 generalize x.f8.f0 = lo at *
 generalize x.f8.f1 = hi at *
 generalize x.f11.length = n12 at *
 generalize p.f2.length = n at *
 have HR := Lib.hid hR
 clear hR
 obtain ⟨q0, q1, q2, q3, q4, q5, q6, q7, q8, q9, q10, q11, q12⟩ := cxs13 X0.out
 go_enter Tryz.func28, Tryz.ntmps28
 go_upto_region 3 with (first
  | (go_at_call 30
     with_reducible refine (cN.out _).mono ?_
     rintro e v ⟨rfl, hb⟩
     replace X0 := Zz.mk (X0.out.next hb)
     replace P0 := Zz.mk (P0.out.next hb)
     clear hb
     obtain ⟨q0, q1, q2, q3⟩ := cxs4 X0.out
     have q4 := X0.out.c 4
     have q5 := X0.out.c 5
     have q6 := X0.out.c 6
     have q7 := X0.out.c 7
     have q8 := X0.out.c 8
     have q9 := X0.out.c 9
     have q10 := X0.out.c 10
     have q11 := X0.out.c 11
     have q12 := X0.out.c 12)
  | (go_at_call 69
     with_reducible refine (cD.out _ X0.out.hb).mono ?_
     rintro e v ⟨rfl, hb⟩
     replace X0 := Zz.mk (X0.out.next hb)
     replace P0 := Zz.mk (P0.out.next hb)
     clear hb
     obtain ⟨q0, q1, q2, q3⟩ := cxs4 X0.out
     have q4 := X0.out.c 4
     have q5 := X0.out.c 5
     have q6 := X0.out.c 6
     have q7 := X0.out.c 7
     have q8 := X0.out.c 8
     have q9 := X0.out.c 9
     have q10 := X0.out.c 10
     have q11 := X0.out.c 11
     have q12 := X0.out.c 12)
  | (go_at_call 70
     with_reducible refine (cU.out _ X0.out.hb).mono ?_
     rintro e v ⟨rfl, hb⟩
     replace X0 := Zz.mk (X0.out.next hb)
     replace P0 := Zz.mk (P0.out.next hb)
     clear hb
     obtain ⟨q0, q1, q2, q3⟩ := cxs4 X0.out
     have q4 := X0.out.c 4
     have q5 := X0.out.c 5
     have q6 := X0.out.c 6
     have q7 := X0.out.c 7
     have q8 := X0.out.c 8
     have q9 := X0.out.c 9
     have q10 := X0.out.c 10
     have q11 := X0.out.c 11
     have q12 := X0.out.c 12)
  | fail)
 all_goals try
  (go_ret
   refine boolB_i ?_ X0.out.hb
   rw [<- HR.out]
   clear HR X0 P0 cN cD cU cS cO lS lD lT lK lI lR lP q0 q1 q2 q3 q4 q5 q6 q7 q8 q9 q10 q11 q12
   simp_all
   done)
 have hR2 : R = (!(b2R vS kd xm bS n4) && (!(b4R vD vT dev dto n) && (!(b5R vK vI vR key tid lo hi) && (decide (n12 = 0) || (vP && decide (n12 <= 600)))))) := by
  rw [<- HR.out]
  clear HR X0 P0 cN cD cU cS cO lS lD lT lK lI lR lP q0 q1 q2 q3 q4 q5 q6 q7 q8 q9 q10 q11 q12
  simp_all
 have HR2 := Lib.hid hR2
 clear hR2
 clear HR
 have HZ := Zz.mk (hx_mk P0.out X0.out)
 clear P0 X0 q0 q1 q2 q3 q4 q5 q6 q7 q8 q9 q10 q11 q12 cN cD cU
 go_cut [53] (fun s53 wx => s53 = .bool (b2R vS kd xm bS n4) /\ Zz (HX w 25 34 w.heap.size (w.heap.size + 1) (.int .i64 p.f0) (.int .i64 p.f1) (.slice B2 n d2) (.slice B3 p.f3.length d3) (.int .i64 x.f0) (.int .i64 dev) (.int .i64 dto) (.int .i64 kd) (.slice A4 n4 c4) (.int .u32 xm) (.int .u32 key) (.int .u32 tid) (.int .u64 lo) (.int .u64 hi) (.int .i64 x.f9) (.slice A11 x.f10.length c11) (.slice A12 n12 c12) wx))
 case first =>
  as_aux_lemma =>
   refine reg3_walk p x B2 B3 A4 A11 A12 n d2 d3 c4 c11 c12 n4 n12 dev dto kd xm key tid lo hi w _ vS bS lS cS HZ _ _ _ _ _ _ _ _ _ _ _ _ _ _ _ _ _ _ _ _ _ _ _ _ _ _ _ _ _ _ _ _ _ _ _ _ _ _ _ _ _ _ _ _ _ _ _ _ _ _ _ _ _ _ _ _ _ _ _ _ _ _ _ _ _ _ _ _ _ _ _ _ _ _ _ _ _ _ _ _ _ _ _ _ _ _ _ _ _ _ _ _ _ _ _ _ _ _ _ _ _ _ _ _ _ _ _ _ _ _ _ _ _ _ _ _ _ _ _ _ _ _ _ _ _ _ _ _ _ _ _ _ _ _ _ _ _ _ _ _ _ _ _ _ _ _ _ _ _ _ _ _ _ _ _ _ _ _ _ _ _ _ _ _ _ _ _ (by intro c a d v w h; cases d <;> exact h) ?_
   intro _ _ _ _ _ _ _ _ _ _ _ _ _ _ _ _ _ _ _ _ _ _ _ _ _ _ _ _ _ _ _ _ _ b W' hb h
   dsimp only
   go_wp2_with fail
   go_meet
   exact ⟨congrArg Value.bool hb, h⟩
 case rest =>
  as_aux_lemma =>
   obtain ⟨rfl, HY⟩ := hcut
   clear HZ cS lS
   generalize b2R vS kd xm bS n4 = c2 at *
   cases c2 with
   | true =>
     go_wp2
     go_ret
     exact boolB_i (by rw [HR2.out]; rfl) HY.out.x.hb
   | false =>
   have hz2 := HY.out.p.c 2
   go_upto_region 6 with fail
   clear hz2
   go_cut [110] (fun s110 wx => s110 = .bool (b4R vD vT dev dto n) /\ Zz (HX w 25 34 w.heap.size (w.heap.size + 1) (.int .i64 p.f0) (.int .i64 p.f1) (.slice B2 n d2) (.slice B3 p.f3.length d3) (.int .i64 x.f0) (.int .i64 dev) (.int .i64 dto) (.int .i64 kd) (.slice A4 n4 c4) (.int .u32 xm) (.int .u32 key) (.int .u32 tid) (.int .u64 lo) (.int .u64 hi) (.int .i64 x.f9) (.slice A11 x.f10.length c11) (.slice A12 n12 c12) wx))
   case first =>
    as_aux_lemma =>
     have q0 := HY.out.x.c 0
     have q1 := HY.out.x.c 1
     have q2 := HY.out.x.c 2
     have q11 := HY.out.x.c 11
     obtain ⟨z1, e1⟩ : ∃ b, (dev != 0) = b := ⟨_, rfl⟩
     obtain ⟨z2, e2⟩ : ∃ b, (dto != 0) = b := ⟨_, rfl⟩
     obtain ⟨z3, e3⟩ : ∃ b, (dto == dev) = b := ⟨_, rfl⟩
     have HV := Lib.hid (show b4R vD vT dev dto n = (decide (dev < 0) || (decide ((n : Int) <= dev) || (!vD && z1 || (decide (dto < 0) || (decide ((n : Int) <= dto) || (!vT && z2 || (vT && z3))))))) by unfold b4R; rw [e1, e2, e3])
     go_wp2_with (first
      | (go_at_call 71
         first
         | (with_reducible refine (lD.out _).mono ?_)
         | (with_reducible refine (lT.out _).mono ?_)
         rintro e v ⟨rfl, hb⟩
         replace HY := Zz.mk (HY.out.next hb)
         clear hb
         have q0 := HY.out.x.c 0
         have q1 := HY.out.x.c 1
         have q2 := HY.out.x.c 2
         have q11 := HY.out.x.c 11)
      | fail)
     all_goals
      go_meet
      refine ⟨congrArg Value.bool ?_, HY⟩
      rw [HV.out]
      clear HV HY HR2 cO lD lT lK lI lR lP q0 q1 q2 q11 e1 e2 e3
      simp_all
      try first | omega | simp only [Bool.or_assoc]
   case rest =>
    as_aux_lemma =>
     obtain ⟨rfl, HZ⟩ := hcut
     clear HY
     generalize b4R vD vT dev dto n = c4 at *
     cases c4 with
     | true =>
       go_wp2
       go_ret
       exact boolB_i (by rw [HR2.out]; rfl) HZ.out.x.hb
     | false =>
     go_upto_region 8 with fail
     go_cut [151] (fun s151 wx => s151 = .bool (b5R vK vI vR key tid lo hi) /\ Zz (HX w 25 34 w.heap.size (w.heap.size + 1) (.int .i64 p.f0) (.int .i64 p.f1) (.slice B2 n d2) (.slice B3 p.f3.length d3) (.int .i64 x.f0) (.int .i64 dev) (.int .i64 dto) (.int .i64 kd) (.slice A4 n4 c4) (.int .u32 xm) (.int .u32 key) (.int .u32 tid) (.int .u64 lo) (.int .u64 hi) (.int .i64 x.f9) (.slice A11 x.f10.length c11) (.slice A12 n12 c12) wx))
     case first =>
      as_aux_lemma =>
       refine reg8_walk p x B2 B3 A4 A11 A12 n d2 d3 c4 c11 c12 n4 n12 dev dto kd xm key tid lo hi w _ vK vI vR HC lK lI lR cO HZ _ _ _ _ _ _ _ _ _ _ _ _ _ _ _ _ _ _ _ _ _ _ _ _ _ _ _ _ _ _ _ _ _ _ _ _ _ _ _ _ _ _ _ _ _ _ _ _ _ _ _ _ _ _ _ _ _ _ _ _ _ _ _ _ _ _ _ _ _ _ _ _ _ _ _ _ _ _ _ _ _ _ _ _ _ _ _ _ _ _ _ _ _ _ _ _ _ _ _ _ _ _ _ _ _ _ _ _ _ _ _ _ _ _ _ _ _ _ _ _ _ _ _ _ _ _ _ _ _ _ _ _ _ _ _ _ _ _ _ _ _ _ _ _ _ _ _ _ _ _ _ _ _ _ _ _ _ _ _ _ _ _ _ _ _ _ _ (by intro c a d v w h; cases d <;> exact h) ?_
       intro _ _ _ _ _ _ _ _ _ _ _ _ _ _ _ _ _ _ _ _ _ _ _ _ _ _ _ _ _ _ _ _ _ _ _ _ _ _ _ _ b W' hb h
       dsimp only
       go_wp2_with fail
       go_meet
       exact ⟨congrArg Value.bool hb, h⟩
     case rest =>
      as_aux_lemma =>
       obtain ⟨rfl, HY⟩ := hcut
       clear HZ
       generalize b5R vK vI vR key tid lo hi = c5 at *
       cases c5 with
       | true =>
         go_wp2
         go_ret
         exact boolB_i (by rw [HR2.out]; rfl) HY.out.x.hb
       | false =>
         have q0 := HY.out.x.c 0
         have q12 := HY.out.x.c 12
         go_wp2_with (first
          | (go_at_call 71
             with_reducible refine (lP.out _).mono ?_
             rintro e v ⟨rfl, hb⟩
             replace HY := Zz.mk (HY.out.next hb)
             clear hb
             have q12 := HY.out.x.c 12)
          | fail)
         all_goals
          go_ret
          refine boolB_i ?_ HY.out.x.hb
          rw [HR2.out]
          clear HY HR2 cO lD lT lK lI lR lP q0 q12
          simp_all [nat_beq0]
          try first | omega | (rw [Bool.eq_iff_iff]; simp)
end Go.Proofs.YtpdinahdcedmkaaGreatDoor.Ext
