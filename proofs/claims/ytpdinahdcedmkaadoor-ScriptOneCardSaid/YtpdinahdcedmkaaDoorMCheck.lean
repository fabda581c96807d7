import Derived.Test.YtpdinahdcedmkaaDoorHPlaced
import Derived.Test.YtpdinahdcedmkaaDoorSSized
/- script.may: may an act be in a plan? -/
namespace Go.Proofs.YtpdinahdcedmkaaDoor.Ext
open Go.Proofs.YtpdinahdcedmkaaDoor.P
set_option linter.unusedVariables false
set_option linter.unusedSimpArgs false
open Go.RowKit Go.Proofs.YtpdinahdcedmkaaDoorW.PrintWords Go.Proofs.YtpdinahdcedmkaaDoorW.PrintLast Go.Proofs.YtpdinahdcedmkaaDoorW.PrintMore Go.Proofs.YtpdinahdcedmkaaDoor.Spec

theorem c_sized (x : Act) (cs : List Value) (w : World) (hK : k42.K w x cs) :
    Calls Tryd.prog 35 #[.agg cs.toArray] w (BoolB (sizedS x.f0 x.f10.length x.f9 x.f11.length) w) := by
  obtain ⟨A4, c4, A11, c11, A12, c12, rfl, l4, g4, l11, g11, l12, g12⟩ := k42_open hK
  exact script_sized.calls x.f0 x.f1 x.f2 x.f3 A4 c4 x.f4 x.f5 x.f6 x.f7 x.f8.f0 x.f8.f1 x.f9 A11 c11 x.f10 A12 c12 x.f11 _ w g4 l4 g11 l11 g12 l12 rfl
def mayS (n : Nat) (x : Act) : Bool := !(rowOf x.f0).1.toList.isEmpty && (keyedS x && (sizedS x.f0 x.f10.length x.f9 x.f11.length && placedS n x))
set_option maxHeartbeats 8000000 in
set_option maxRecDepth 100000 in
theorem c_may (p : Plan) (x : Act) (cp cs : List Value) (w : World) (hP : k33.K w p cp) (hK : k42.K w x cs) (hx : ActBd x) :
    Calls Tryd.prog 24 #[.agg cp.toArray, .agg cs.toArray] w (BoolB (mayS p.f2.length x) w) := by
  have cN := Lib.hid (fun W => c_SName x.f0 W)
  have cQ := Lib.hid (fun W (hW : Below w.heap.size w W) => c_keyed x cs W (k42.K_below hW hK) hx)
  have cZ := Lib.hid (fun W (hW : Below w.heap.size w W) => c_sized x cs W (k42.K_below hW hK))
  have cP := Lib.hid (fun W (hW : Below w.heap.size w W) => c_placed p x cp cs W (k33.K_below hW hP) (k42.K_below hW hK))
  have P0 := Aside0.mk ((Bx.new w cp 33).push (.cells cs.toArray 42))
  have X0 := Aside0.mk ((Bx.new w cp 33).on cs 42 |>.at_ (show _ = w.heap.size + 1 by simp))
  obtain ⟨A4, c4, A11, c11, A12, c12, rfl, l4, g4, l11, g11, l12, g12⟩ := k42_open hK
  obtain ⟨B2, d2, B3, d3, rfl, m2, e2, m3, e3⟩ := k33_open hP
  clear hP hK hx g4 g11 g12 l4 l11 l12 m2 e2 m3 e3
  obtain ⟨R, hR⟩ : ∃ R, mayS p.f2.length x = R := ⟨_, rfl⟩
  rw [hR]
  unfold mayS at hR
  generalize keyedS x = bK at *
  generalize sizedS x.f0 x.f10.length x.f9 x.f11.length = bZ at *
  generalize placedS p.f2.length x = bP at *
  have HR := Lib.hid hR
  clear hR
  have HZ := Aside0.mk (hx_mk P0.out X0.out)
  clear P0 X0
  have q0 := HZ.out.x.c 0
  have q1 := HZ.out.x.c 1
  have q2 := HZ.out.x.c 2
  have q3 := HZ.out.x.c 3
  have q4 := HZ.out.x.c 4
  have q5 := HZ.out.x.c 5
  have q6 := HZ.out.x.c 6
  have q7 := HZ.out.x.c 7
  have q8 := HZ.out.x.c 8
  have q9 := HZ.out.x.c 9
  have q10 := HZ.out.x.c 10
  have q11 := HZ.out.x.c 11
  have q12 := HZ.out.x.c 12
  have r0 := HZ.out.p.c 0
  have r1 := HZ.out.p.c 1
  have r2 := HZ.out.p.c 2
  have r3 := HZ.out.p.c 3
  go_enter Tryd.func24, Tryd.ntmps24
  go_wp2_with (first
    | (go_at_call 10
       with_reducible refine (cN.out _).mono ?_
       rintro e v ⟨rfl, hb⟩
       replace HZ := Aside0.mk (HZ.out.next hb)
       clear hb
       have q0 := HZ.out.x.c 0
       have q1 := HZ.out.x.c 1
       have q2 := HZ.out.x.c 2
       have q3 := HZ.out.x.c 3
       have q4 := HZ.out.x.c 4
       have q5 := HZ.out.x.c 5
       have q6 := HZ.out.x.c 6
       have q7 := HZ.out.x.c 7
       have q8 := HZ.out.x.c 8
       have q9 := HZ.out.x.c 9
       have q10 := HZ.out.x.c 10
       have q11 := HZ.out.x.c 11
       have q12 := HZ.out.x.c 12
       have r0 := HZ.out.p.c 0
       have r1 := HZ.out.p.c 1
       have r2 := HZ.out.p.c 2
       have r3 := HZ.out.p.c 3)
    | (go_at_call 34
       with_reducible refine (cQ.out _ HZ.out.x.hb).mono ?_
       rintro e v ⟨rfl, hb⟩
       replace HZ := Aside0.mk (HZ.out.next hb)
       clear hb
       have q0 := HZ.out.x.c 0
       have q1 := HZ.out.x.c 1
       have q2 := HZ.out.x.c 2
       have q3 := HZ.out.x.c 3
       have q4 := HZ.out.x.c 4
       have q5 := HZ.out.x.c 5
       have q6 := HZ.out.x.c 6
       have q7 := HZ.out.x.c 7
       have q8 := HZ.out.x.c 8
       have q9 := HZ.out.x.c 9
       have q10 := HZ.out.x.c 10
       have q11 := HZ.out.x.c 11
       have q12 := HZ.out.x.c 12
       have r0 := HZ.out.p.c 0
       have r1 := HZ.out.p.c 1
       have r2 := HZ.out.p.c 2
       have r3 := HZ.out.p.c 3)
    | (go_at_call 35
       with_reducible refine (cZ.out _ HZ.out.x.hb).mono ?_
       rintro e v ⟨rfl, hb⟩
       replace HZ := Aside0.mk (HZ.out.next hb)
       clear hb
       have q0 := HZ.out.x.c 0
       have q1 := HZ.out.x.c 1
       have q2 := HZ.out.x.c 2
       have q3 := HZ.out.x.c 3
       have q4 := HZ.out.x.c 4
       have q5 := HZ.out.x.c 5
       have q6 := HZ.out.x.c 6
       have q7 := HZ.out.x.c 7
       have q8 := HZ.out.x.c 8
       have q9 := HZ.out.x.c 9
       have q10 := HZ.out.x.c 10
       have q11 := HZ.out.x.c 11
       have q12 := HZ.out.x.c 12
       have r0 := HZ.out.p.c 0
       have r1 := HZ.out.p.c 1
       have r2 := HZ.out.p.c 2
       have r3 := HZ.out.p.c 3)
    | (go_at_call 36
       with_reducible refine (cP.out _ HZ.out.x.hb).mono ?_
       rintro e v ⟨rfl, hb⟩
       replace HZ := Aside0.mk (HZ.out.next hb)
       clear hb)
    | fail)
  all_goals
    go_ret
    refine boolB_i ?_ HZ.out.x.hb
    rw [← HR.out]
    clear HR HZ cN cQ cZ cP q0 q1 q2 q3 q4 q5 q6 q7 q8 q9 q10 q11 q12 r0 r1 r2 r3
    simp_all
end Go.Proofs.YtpdinahdcedmkaaDoor.Ext
/- script.Check: the plan's head, and each act. -/
namespace Go.Proofs.YtpdinahdcedmkaaDoor.Ext
open Go.Proofs.YtpdinahdcedmkaaDoor.P
set_option linter.unusedVariables false
set_option linter.unusedSimpArgs false
open Go.RowKit Go.Proofs.YtpdinahdcedmkaaDoorW.PrintWords Go.Proofs.YtpdinahdcedmkaaDoorW.PrintLast Go.Proofs.YtpdinahdcedmkaaDoorW.PrintMore Go.Proofs.YtpdinahdcedmkaaDoor.Spec

/-- a plan's data are such as can be read -/
structure PlanBd (p : Plan) : Prop where
  few : p.f2.length ≤ 1048576
  small : ∀ i, (p.f2.getD i ByteArray.empty).size ≤ 140737488351232
  acts : ∀ i, ActBd (p.f3.getD i z42)
theorem c_head (p : Plan) (cp : List Value) (w : World) (hP : k33.K w p cp) (hp : PlanBd p) :
    Calls Tryd.prog 23 #[.agg cp.toArray] w (BoolB (headedS p.f0 p.f1 p.f2) w) := by
  obtain ⟨B2, d2, B3, d3, rfl, m2, e2, m3, e3⟩ := k33_open hP
  exact c_headed p.f0 p.f1 B2 d2 p.f2 B3 p.f3.length d3 w e2 m2 hp.few hp.small
def actsS (n : Nat) (l : List Act) : Bool := l.all (mayS n)
theorem drop_cons34 (l : List Act) (i : Nat) (h : i < l.length) : l.drop i = l.getD i z42 :: l.drop (i + 1) := by
  rw [List.drop_eq_getElem_cons h]
  congr 1
  rw [List.getD_eq_getElem?_getD, List.getElem?_eq_getElem h]
  rfl
def checkS (p : Plan) : Bool := headedS p.f0 p.f1 p.f2 && (decide (p.f3.length ≤ 400) && actsS p.f2.length p.f3)
end Go.Proofs.YtpdinahdcedmkaaDoor.Ext
