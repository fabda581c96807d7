import Derived.Test.YtpdinahdcedmkaaDoorHActW
import Derived.Test.YtpdinahdcedmkaaDoorMBack
import Derived.Test.YtpdinahdcedmkaaDoorHRSame
import Derived.Test.YtpdinahdcedmkaaDoorQSLive
import Derived.Test.YtpdinahdcedmkaaDoorMPure
import Derived.Test.YtpdinahdcedmkaaDoorCardKit
/- Law ScriptOne: script.Act gives an act back from its line, and different acts have different lines. -/
namespace Go.Proofs.YtpdinahdcedmkaaDoor.Ext
open Go.Proofs.YtpdinahdcedmkaaDoor.P
set_option linter.unusedVariables false
set_option linter.unusedSimpArgs false
open Go.RowKit Go.Proofs.YtpdinahdcedmkaaDoorW.PrintWords Go.Proofs.YtpdinahdcedmkaaDoorW.PrintLast Go.Proofs.YtpdinahdcedmkaaDoorW.PrintMore Go.Proofs.YtpdinahdcedmkaaDoor.Spec

theorem fold_small (l : List ByteArray) (x : Act) (N : Nat) (h : ∀ c, (sayB l x c).size ≤ N) (cs : List UInt8) : ∀ a : ByteArray, (cs.foldl (lineF l x) a).size ≤ a.size + (N + 1) * cs.length := by
  induction cs with
  | nil => intro a; simp
  | cons c t ih =>
    intro a
    have h1 := ih (lineF l x a c)
    have h2 : (lineF l x a c).size = a.size + (1 + (sayB l x ((c.toNat : Nat) : Int)).size) := by
      unfold lineF
      rw [ByteArray.size_append, ByteArray.size_append]
      rfl
    have h3 := h ((c.toNat : Nat) : Int)
    rw [List.foldl_cons, List.length_cons, Nat.mul_succ]
    omega
theorem say_small {l : List ByteArray} {x : Act} (h : SayOk l x) (h4 : x.f4.length ≤ 8) (c : Int) : (sayB l x c).size ≤ 8000000 := by
  have a1 := quoteS_size (l.getD x.f1.toNat ByteArray.empty)
  have a2 := quoteS_size (l.getD x.f2.toNat ByteArray.empty)
  have n1 := h.nm x.f1.toNat
  have n2 := h.nm x.f2.toNat
  have d1 := fun n => decS_size (IntKind.u64.wrap n) (wrap_u64_bd n).2
  have d2 := decS_size x.f8.f0 h.lo.2
  have d3 := decS_size x.f8.f1 h.hi.2
  have x1 : (strOfNums (hexS x.f10)).size = 2 * x.f10.length := by rw [strOfNums_size, hexS_len]
  have q1 := quoteS_size (strOfNums x.f10)
  rw [strOfNums_size] at q1
  have dl := h.dl
  have pk := h.pk
  have s1 := setsB_size x
  have p1 := pickS_size x.f11
  have r1 : ((decS x.f8.f0 ++ ⟨#[32]⟩) ++ decS x.f8.f1 : ByteArray).size = ((decS x.f8.f0).size + 1) + (decS x.f8.f1).size := by
    rw [ByteArray.size_append, ByteArray.size_append]
    rfl
  unfold sayB
  have k6 := d1 x.f6
  have k7 := d1 x.f7
  have k9 := d1 x.f9
  by_cases c0 : c = 100
  · rw [if_pos c0]; omega
  rw [if_neg c0]
  by_cases c1 : c = 116
  · rw [if_pos c1]; omega
  rw [if_neg c1]
  by_cases c2 : c = 107
  · rw [if_pos c2]; omega
  rw [if_neg c2]
  by_cases c3 : c = 105
  · rw [if_pos c3]; omega
  rw [if_neg c3]
  by_cases c4 : c = 98
  · rw [if_pos c4]; omega
  rw [if_neg c4]
  by_cases c5 : c = 110
  · rw [if_pos c5]; omega
  rw [if_neg c5]
  by_cases c6 : c = 119
  · rw [if_pos c6]; omega
  rw [if_neg c6]
  by_cases c7 : c = 120
  · rw [if_pos c7]; omega
  rw [if_neg c7]
  by_cases c8 : c = 109
  · rw [if_pos c8]; omega
  rw [if_neg c8]
  by_cases c9 : c = 114
  · rw [if_pos c9]; omega
  rw [if_neg c9]
  by_cases c10 : c = 115
  · rw [if_pos c10]; omega
  rw [if_neg c10]
  omega
theorem line_small {l : List ByteArray} {x : Act} (h : SayOk l x) (hm : mayS l.length x = true) : (lineB l x).size ≤ 1073741824 := by
  have h4 : x.f4.length ≤ 8 := by
    unfold mayS at hm
    simp only [Bool.and_eq_true] at hm
    obtain ⟨_, hk, _⟩ := hm
    unfold keyedS setsS hssS at hk
    split at hk
    · split at hk
      · simp only [Bool.and_eq_true, decide_eq_true_eq] at hk
        omega
      · split at hk
        · simp only [Bool.and_eq_true, decide_eq_true_eq] at hk
          omega
        · cases hk
    · simp only [Bool.and_eq_true, decide_eq_true_eq] at hk
      omega
  have h1 := fold_small l x 8000000 (say_small h h4) (rowOf x.f0).2.data.toList (rowOf x.f0).1
  have h2 := row_sizes x.f0
  have h3 : (rowOf x.f0).2.data.toList.length ≤ 8 := by rw [Array.length_toList]; exact h2.1
  unfold lineB
  have h5 : (8000000 + 1) * (rowOf x.f0).2.data.toList.length ≤ (8000000 + 1) * 8 := Nat.mul_le_mul_left _ h3
  omega
/-- a line, and what is told of it -/
def lineE (p : Plan) (x : Act) : ByteArray × Int := if headedS p.f0 p.f1 p.f2 = true ∧ mayS p.f2.length x = true then (lineB p.f2 x, 0) else (⟨#[]⟩, 270)
set_option maxHeartbeats 16000000 in
set_option maxRecDepth 100000 in
theorem c_SLine (p : Plan) (x : Act) (cp cs : List Value) (w : World) (hP : k33.K w p cp) (hK : k42.K w x cs) (hp : PlanBd p) (hx : ActBd x) (h : mayS p.f2.length x = true → SayOk p.f2 x) (hT : Lib.Utf8Tabs 0 1 w) :
    Calls Tryd.prog 17 #[.agg cp.toArray, .agg cs.toArray] w (StrE (lineE p x).1 (lineE p x).2 w) := by
  have ch := Lib.hid (fun W (hW : Below w.heap.size w W) => c_head p cp W (k33.K_below hW hP) hp)
  have cm := Lib.hid (fun W (hW : Below w.heap.size w W) => c_may p x cp cs W (k33.K_below hW hP) (k42.K_below hW hK) hx)
  have cl := Lib.hid (fun (hm : mayS p.f2.length x = true) W (hW : Below w.heap.size w W) => c_line p x cp cs W (k33.K_below hW hP) (k42.K_below hW hK) (h hm) (Utf8Tabs_below hT hW))
  have P0 := Aside0.mk ((Bx.new w cp 33).push (.cells cs.toArray 42))
  have X0 := Aside0.mk ((Bx.new w cp 33).on cs 42 |>.at_ (show _ = w.heap.size + 1 by simp))
  unfold lineE
  obtain ⟨A4, c4, A11, c11, A12, c12, rfl, l4, g4, l11, g11, l12, g12⟩ := k42_open hK
  obtain ⟨B2, d2, B3, d3, rfl, m2, e2, m3, e3⟩ := k33_open hP
  have HZ := Aside0.mk (hx_mk P0.out X0.out)
  clear P0 X0 hP hK g4 g11 g12 l4 l11 l12 m2 e2 m3 e3 h hT hp hx
  generalize headedS p.f0 p.f1 p.f2 = H at *
  generalize mayS p.f2.length x = M at *
  generalize lineB p.f2 x = L at *
  have r0 := HZ.out.p.c 0
  have r1 := HZ.out.p.c 1
  have r2 := HZ.out.p.c 2
  have r3 := HZ.out.p.c 3
  have q0 := HZ.out.x.c 0
  have q1 := HZ.out.x.c 1
  have q2 := HZ.out.x.c 2
  have q3 := HZ.out.x.c 3
  have q4 := HZ.out.x.c 4
  have q5 := HZ.out.x.c 5
  have q6 := HZ.out.x.c 6
  have q7 := HZ.out.x.c 7
  have q8 := HZ.out.x.c 8
  have q9 := HZ.out.x.c 9
  have q10 := HZ.out.x.c 10
  have q11 := HZ.out.x.c 11
  have q12 := HZ.out.x.c 12
  cases H with
  | false =>
    clear cm cl
    rw [if_neg (by simp)]
    show Calls _ _ _ _ (StrE ⟨#[]⟩ 270 w)
    go_enter Tryd.func17, Tryd.ntmps17
    go_wp2_with fail
    refine (ch.out _ HZ.out.x.hb).mono ?_
    rintro e v ⟨rfl, hb⟩
    replace HZ := Aside0.mk (HZ.out.next hb)
    clear hb q0 q1 q2 q3 q4 q5 q6 q7 q8 q9 q10 q11 q12 r0 r1 r2 r3
    have r0 := HZ.out.p.c 0
    have r1 := HZ.out.p.c 1
    have r2 := HZ.out.p.c 2
    have r3 := HZ.out.p.c 3
    have q0 := HZ.out.x.c 0
    have q1 := HZ.out.x.c 1
    have q2 := HZ.out.x.c 2
    have q3 := HZ.out.x.c 3
    have q4 := HZ.out.x.c 4
    have q5 := HZ.out.x.c 5
    have q6 := HZ.out.x.c 6
    have q7 := HZ.out.x.c 7
    have q8 := HZ.out.x.c 8
    have q9 := HZ.out.x.c 9
    have q10 := HZ.out.x.c 10
    have q11 := HZ.out.x.c 11
    have q12 := HZ.out.x.c 12
    clear ch
    go_wp2_with fail
    go_ret2
    exact ⟨rfl, HZ.out.x.hb⟩
  | true =>
    cases M with
    | false =>
      clear cl
      rw [if_neg (by simp)]
      show Calls _ _ _ _ (StrE ⟨#[]⟩ 270 w)
      go_enter Tryd.func17, Tryd.ntmps17
      go_wp2_with fail
      refine (ch.out _ HZ.out.x.hb).mono ?_
      rintro e v ⟨rfl, hb⟩
      replace HZ := Aside0.mk (HZ.out.next hb)
      clear hb q0 q1 q2 q3 q4 q5 q6 q7 q8 q9 q10 q11 q12 r0 r1 r2 r3
      have r0 := HZ.out.p.c 0
      have r1 := HZ.out.p.c 1
      have r2 := HZ.out.p.c 2
      have r3 := HZ.out.p.c 3
      have q0 := HZ.out.x.c 0
      have q1 := HZ.out.x.c 1
      have q2 := HZ.out.x.c 2
      have q3 := HZ.out.x.c 3
      have q4 := HZ.out.x.c 4
      have q5 := HZ.out.x.c 5
      have q6 := HZ.out.x.c 6
      have q7 := HZ.out.x.c 7
      have q8 := HZ.out.x.c 8
      have q9 := HZ.out.x.c 9
      have q10 := HZ.out.x.c 10
      have q11 := HZ.out.x.c 11
      have q12 := HZ.out.x.c 12
      clear ch
      go_wp2_with fail
      refine (cm.out _ HZ.out.x.hb).mono ?_
      rintro e v ⟨rfl, hb⟩
      replace HZ := Aside0.mk (HZ.out.next hb)
      clear hb q0 q1 q2 q3 q4 q5 q6 q7 q8 q9 q10 q11 q12 r0 r1 r2 r3
      have r0 := HZ.out.p.c 0
      have r1 := HZ.out.p.c 1
      have r2 := HZ.out.p.c 2
      have r3 := HZ.out.p.c 3
      have q0 := HZ.out.x.c 0
      have q1 := HZ.out.x.c 1
      have q2 := HZ.out.x.c 2
      have q3 := HZ.out.x.c 3
      have q4 := HZ.out.x.c 4
      have q5 := HZ.out.x.c 5
      have q6 := HZ.out.x.c 6
      have q7 := HZ.out.x.c 7
      have q8 := HZ.out.x.c 8
      have q9 := HZ.out.x.c 9
      have q10 := HZ.out.x.c 10
      have q11 := HZ.out.x.c 11
      have q12 := HZ.out.x.c 12
      clear cm
      go_wp2_with fail
      go_ret2
      exact ⟨rfl, HZ.out.x.hb⟩
    | true =>
      rw [if_pos ⟨rfl, rfl⟩]
      show Calls _ _ _ _ (StrE L 0 w)
      replace cl := Lib.hid (cl.out rfl)
      go_enter Tryd.func17, Tryd.ntmps17
      go_wp2_with fail
      refine (ch.out _ HZ.out.x.hb).mono ?_
      rintro e v ⟨rfl, hb⟩
      replace HZ := Aside0.mk (HZ.out.next hb)
      clear hb q0 q1 q2 q3 q4 q5 q6 q7 q8 q9 q10 q11 q12 r0 r1 r2 r3
      have r0 := HZ.out.p.c 0
      have r1 := HZ.out.p.c 1
      have r2 := HZ.out.p.c 2
      have r3 := HZ.out.p.c 3
      have q0 := HZ.out.x.c 0
      have q1 := HZ.out.x.c 1
      have q2 := HZ.out.x.c 2
      have q3 := HZ.out.x.c 3
      have q4 := HZ.out.x.c 4
      have q5 := HZ.out.x.c 5
      have q6 := HZ.out.x.c 6
      have q7 := HZ.out.x.c 7
      have q8 := HZ.out.x.c 8
      have q9 := HZ.out.x.c 9
      have q10 := HZ.out.x.c 10
      have q11 := HZ.out.x.c 11
      have q12 := HZ.out.x.c 12
      clear ch
      go_wp2_with fail
      refine (cm.out _ HZ.out.x.hb).mono ?_
      rintro e v ⟨rfl, hb⟩
      replace HZ := Aside0.mk (HZ.out.next hb)
      clear hb q0 q1 q2 q3 q4 q5 q6 q7 q8 q9 q10 q11 q12 r0 r1 r2 r3
      have r0 := HZ.out.p.c 0
      have r1 := HZ.out.p.c 1
      have r2 := HZ.out.p.c 2
      have r3 := HZ.out.p.c 3
      have q0 := HZ.out.x.c 0
      have q1 := HZ.out.x.c 1
      have q2 := HZ.out.x.c 2
      have q3 := HZ.out.x.c 3
      have q4 := HZ.out.x.c 4
      have q5 := HZ.out.x.c 5
      have q6 := HZ.out.x.c 6
      have q7 := HZ.out.x.c 7
      have q8 := HZ.out.x.c 8
      have q9 := HZ.out.x.c 9
      have q10 := HZ.out.x.c 10
      have q11 := HZ.out.x.c 11
      have q12 := HZ.out.x.c 12
      clear cm
      go_wp2_with fail
      refine (cl.out _ HZ.out.x.hb).mono ?_
      rintro e v ⟨rfl, hb⟩
      replace HZ := Aside0.mk (HZ.out.next hb)
      clear hb q0 q1 q2 q3 q4 q5 q6 q7 q8 q9 q10 q11 q12 r0 r1 r2 r3
      have r0 := HZ.out.p.c 0
      have r1 := HZ.out.p.c 1
      have r2 := HZ.out.p.c 2
      have r3 := HZ.out.p.c 3
      have q0 := HZ.out.x.c 0
      have q1 := HZ.out.x.c 1
      have q2 := HZ.out.x.c 2
      have q3 := HZ.out.x.c 3
      have q4 := HZ.out.x.c 4
      have q5 := HZ.out.x.c 5
      have q6 := HZ.out.x.c 6
      have q7 := HZ.out.x.c 7
      have q8 := HZ.out.x.c 8
      have q9 := HZ.out.x.c 9
      have q10 := HZ.out.x.c 10
      have q11 := HZ.out.x.c 11
      have q12 := HZ.out.x.c 12
      clear cl
      go_wp2_with fail
      go_ret2
      exact ⟨rfl, HZ.out.x.hb⟩
theorem line_inj {p : Plan} {x y : Act} (hx : ActOk x) (hy : ActOk y) (hh : headedS p.f0 p.f1 p.f2 = true) (h1 : mayS p.f2.length x = true) (h2 : mayS p.f2.length y = true) (he : lineB p.f2 x = lineB p.f2 y) : x = y := by
  have a := act_back hx hh h1
  rw [he, act_back hy hh h2] at a
  exact (Option.some.inj a).symm
theorem data_bd {x : Act} (h : ActOk x) (hm : muchS x = false) : DataBd x := by
  unfold muchS at hm
  simp only [Bool.or_eq_false_iff, decide_eq_false_iff_not] at hm
  exact ⟨h.by_, by omega⟩
theorem eqBy_refl1 {α : Type} (q : α → α → Bool) (h : ∀ x, q x x = true) : ∀ l : List α, eqBy q l l = true
  | [] => by unfold eqBy; rfl
  | x :: t => by unfold eqBy; rw [h x, eqBy_refl1 q h t]; rfl
theorem eqBy_eq {α : Type} (q : α → α → Bool) (h : ∀ x y, q x y = true → x = y) : ∀ l m : List α, eqBy q l m = true → l = m
  | [], [], _ => rfl
  | [], y :: u, e => by unfold eqBy at e; cases e
  | x :: t, [], e => by unfold eqBy at e; cases e
  | x :: t, y :: u, e => by
    unfold eqBy at e
    simp only [Bool.and_eq_true] at e
    rw [h x y e.1, eqBy_eq q h t u e.2]
theorem sameA_self (x : Act) : sameA x x = true := by
  unfold sameA
  rw [eqBy_refl1 lvq (fun v => by simp [lvq]), eqBy_refl1 boq (fun v => by simp [boq])]
  simp
theorem sameA_eq {x y : Act} (h : sameA x y = true) : x = y := by
  unfold sameA at h
  simp only [Bool.and_eq_true, beq_iff_eq, decide_eq_true_eq] at h
  obtain ⟨h0, h1, h2, h3, h5, h6, h7, ⟨h8, h8'⟩, h9, h10, h4, h11⟩ := h
  refine act_ext h0 h1 h2 h3 (eqBy_eq lvq (fun a b e => ?_) _ _ h4) h5 h6 h7 ?_ h9 h10 (eqBy_eq boq (fun a b e => by unfold boq at e; simpa using e) _ _ h11)
  · unfold lvq at e
    simp only [Bool.and_eq_true, beq_iff_eq] at e
    cases a; cases b
    simp only at e
    rw [e.1, e.2]
  · cases hx : x.f8
    cases hy : y.f8
    rw [hx, hy] at h8 h8'
    simp only at h8 h8'
    rw [h8, h8']
set_option maxHeartbeats 16000000 in
set_option maxRecDepth 100000 in
theorem one_big (p : Plan) (a b : Act) (cp ca cb : List Value) (w : World) (hP : k33.K w p cp) (hA : k42.K w a ca) (hB : k42.K w b cb) (hp : PlanOk p) (ha : ActOk a) (hb : ActOk b) (hT : Lib.Utf8Tabs 0 1 w) (h1 : bigS p = true) :
    Calls Tryd.prog 5 #[.agg cp.toArray, .agg ca.toArray, .agg cb.toArray] w (BoolB true w) := by
  have P0 := Aside0.mk (((Bx.new w cp 33).push (.cells ca.toArray 42)).push (.cells cb.toArray 42))
  have A0 := Aside0.mk (((Bx.new w cp 33).on ca 42 |>.at_ (show _ = w.heap.size + 1 by simp)).push (.cells cb.toArray 42))
  have B0 := Aside0.mk (((Bx.new w cp 33).push (.cells ca.toArray 42)).on cb 42 |>.at_ (show _ = w.heap.size + 1 + 1 by simp))
  have cL := Lib.hid (fun W (hW : Below w.heap.size w W) => ExtQ.live_walk W (ExtQ.tabs_at ⟨hT⟩ hW))
  have cB := Lib.hid (fun W (hW : Below w.heap.size w W) => c_big p cp W (k33.K_below hW hP))
  rw [h1] at cB
  obtain ⟨A4, c4, A11, c11, A12, c12, rfl, -, -, -, -, -, -⟩ := k42_open hA
  obtain ⟨A4b, c4b, A11b, c11b, A12b, c12b, rfl, -, -, -, -, -, -⟩ := k42_open hB
  obtain ⟨B2, d2, B3, d3, rfl, -, -, -, -⟩ := k33_open hP
  clear hP hA hB hT hp ha hb h1
  have r0 := P0.out.c 0
  have r1 := P0.out.c 1
  have r2 := P0.out.c 2
  have r3 := P0.out.c 3
  have q0 := A0.out.c 0
  have q1 := A0.out.c 1
  have q2 := A0.out.c 2
  have q3 := A0.out.c 3
  have q4 := A0.out.c 4
  have q5 := A0.out.c 5
  have q6 := A0.out.c 6
  have q7 := A0.out.c 7
  have q8 := A0.out.c 8
  have q9 := A0.out.c 9
  have q10 := A0.out.c 10
  have q11 := A0.out.c 11
  have q12 := A0.out.c 12
  have s0 := B0.out.c 0
  have s1 := B0.out.c 1
  have s2 := B0.out.c 2
  have s3 := B0.out.c 3
  have s4 := B0.out.c 4
  have s5 := B0.out.c 5
  have s6 := B0.out.c 6
  have s7 := B0.out.c 7
  have s8 := B0.out.c 8
  have s9 := B0.out.c 9
  have s10 := B0.out.c 10
  have s11 := B0.out.c 11
  have s12 := B0.out.c 12
  go_enter Tryd.func5, Tryd.ntmps5
  go_wp2_with fail
  refine (cL.out _ P0.out.hb).mono ?_
  rintro e v ⟨rfl, hbz⟩
  replace P0 := Aside0.mk (P0.out.next hbz)
  replace A0 := Aside0.mk (A0.out.next hbz)
  replace B0 := Aside0.mk (B0.out.next hbz)
  clear hbz r0 r1 r2 r3 q0 q1 q2 q3 q4 q5 q6 q7 q8 q9 q10 q11 q12 s0 s1 s2 s3 s4 s5 s6 s7 s8 s9 s10 s11 s12
  have r0 := P0.out.c 0
  have r1 := P0.out.c 1
  have r2 := P0.out.c 2
  have r3 := P0.out.c 3
  have q0 := A0.out.c 0
  have q1 := A0.out.c 1
  have q2 := A0.out.c 2
  have q3 := A0.out.c 3
  have q4 := A0.out.c 4
  have q5 := A0.out.c 5
  have q6 := A0.out.c 6
  have q7 := A0.out.c 7
  have q8 := A0.out.c 8
  have q9 := A0.out.c 9
  have q10 := A0.out.c 10
  have q11 := A0.out.c 11
  have q12 := A0.out.c 12
  have s0 := B0.out.c 0
  have s1 := B0.out.c 1
  have s2 := B0.out.c 2
  have s3 := B0.out.c 3
  have s4 := B0.out.c 4
  have s5 := B0.out.c 5
  have s6 := B0.out.c 6
  have s7 := B0.out.c 7
  have s8 := B0.out.c 8
  have s9 := B0.out.c 9
  have s10 := B0.out.c 10
  have s11 := B0.out.c 11
  have s12 := B0.out.c 12
  go_wp2_with fail
  refine (cB.out _ P0.out.hb).mono ?_
  rintro e v ⟨rfl, hbz⟩
  replace P0 := Aside0.mk (P0.out.next hbz)
  replace A0 := Aside0.mk (A0.out.next hbz)
  replace B0 := Aside0.mk (B0.out.next hbz)
  clear hbz r0 r1 r2 r3 q0 q1 q2 q3 q4 q5 q6 q7 q8 q9 q10 q11 q12 s0 s1 s2 s3 s4 s5 s6 s7 s8 s9 s10 s11 s12
  have r0 := P0.out.c 0
  have r1 := P0.out.c 1
  have r2 := P0.out.c 2
  have r3 := P0.out.c 3
  have q0 := A0.out.c 0
  have q1 := A0.out.c 1
  have q2 := A0.out.c 2
  have q3 := A0.out.c 3
  have q4 := A0.out.c 4
  have q5 := A0.out.c 5
  have q6 := A0.out.c 6
  have q7 := A0.out.c 7
  have q8 := A0.out.c 8
  have q9 := A0.out.c 9
  have q10 := A0.out.c 10
  have q11 := A0.out.c 11
  have q12 := A0.out.c 12
  have s0 := B0.out.c 0
  have s1 := B0.out.c 1
  have s2 := B0.out.c 2
  have s3 := B0.out.c 3
  have s4 := B0.out.c 4
  have s5 := B0.out.c 5
  have s6 := B0.out.c 6
  have s7 := B0.out.c 7
  have s8 := B0.out.c 8
  have s9 := B0.out.c 9
  have s10 := B0.out.c 10
  have s11 := B0.out.c 11
  have s12 := B0.out.c 12
  clear cB
  go_wp2_with fail
  refine (cL.out _ P0.out.hb).mono ?_
  rintro e v ⟨rfl, hbz⟩
  replace P0 := Aside0.mk (P0.out.next hbz)
  replace A0 := Aside0.mk (A0.out.next hbz)
  replace B0 := Aside0.mk (B0.out.next hbz)
  clear hbz r0 r1 r2 r3 q0 q1 q2 q3 q4 q5 q6 q7 q8 q9 q10 q11 q12 s0 s1 s2 s3 s4 s5 s6 s7 s8 s9 s10 s11 s12
  have r0 := P0.out.c 0
  have r1 := P0.out.c 1
  have r2 := P0.out.c 2
  have r3 := P0.out.c 3
  have q0 := A0.out.c 0
  have q1 := A0.out.c 1
  have q2 := A0.out.c 2
  have q3 := A0.out.c 3
  have q4 := A0.out.c 4
  have q5 := A0.out.c 5
  have q6 := A0.out.c 6
  have q7 := A0.out.c 7
  have q8 := A0.out.c 8
  have q9 := A0.out.c 9
  have q10 := A0.out.c 10
  have q11 := A0.out.c 11
  have q12 := A0.out.c 12
  have s0 := B0.out.c 0
  have s1 := B0.out.c 1
  have s2 := B0.out.c 2
  have s3 := B0.out.c 3
  have s4 := B0.out.c 4
  have s5 := B0.out.c 5
  have s6 := B0.out.c 6
  have s7 := B0.out.c 7
  have s8 := B0.out.c 8
  have s9 := B0.out.c 9
  have s10 := B0.out.c 10
  have s11 := B0.out.c 11
  have s12 := B0.out.c 12
  clear cL
  go_wp2_with fail
  go_ret
  exact ⟨rfl, P0.out.hb⟩
set_option maxHeartbeats 16000000 in
set_option maxRecDepth 100000 in
theorem one_ma (p : Plan) (a b : Act) (cp ca cb : List Value) (w : World) (hP : k33.K w p cp) (hA : k42.K w a ca) (hB : k42.K w b cb) (hp : PlanOk p) (ha : ActOk a) (hb : ActOk b) (hT : Lib.Utf8Tabs 0 1 w) (h1 : bigS p = false) (h2 : muchS a = true) :
    Calls Tryd.prog 5 #[.agg cp.toArray, .agg ca.toArray, .agg cb.toArray] w (BoolB true w) := by
  have P0 := Aside0.mk (((Bx.new w cp 33).push (.cells ca.toArray 42)).push (.cells cb.toArray 42))
  have A0 := Aside0.mk (((Bx.new w cp 33).on ca 42 |>.at_ (show _ = w.heap.size + 1 by simp)).push (.cells cb.toArray 42))
  have B0 := Aside0.mk (((Bx.new w cp 33).push (.cells ca.toArray 42)).on cb 42 |>.at_ (show _ = w.heap.size + 1 + 1 by simp))
  have cL := Lib.hid (fun W (hW : Below w.heap.size w W) => ExtQ.live_walk W (ExtQ.tabs_at ⟨hT⟩ hW))
  have cB := Lib.hid (fun W (hW : Below w.heap.size w W) => c_big p cp W (k33.K_below hW hP))
  rw [h1] at cB
  have cM1 := Lib.hid (fun W (hW : Below w.heap.size w W) => c_much a ca W (k42.K_below hW hA))
  rw [h2] at cM1
  obtain ⟨A4, c4, A11, c11, A12, c12, rfl, -, -, -, -, -, -⟩ := k42_open hA
  obtain ⟨A4b, c4b, A11b, c11b, A12b, c12b, rfl, -, -, -, -, -, -⟩ := k42_open hB
  obtain ⟨B2, d2, B3, d3, rfl, -, -, -, -⟩ := k33_open hP
  clear hP hA hB hT hp ha hb h1 h2
  have r0 := P0.out.c 0
  have r1 := P0.out.c 1
  have r2 := P0.out.c 2
  have r3 := P0.out.c 3
  have q0 := A0.out.c 0
  have q1 := A0.out.c 1
  have q2 := A0.out.c 2
  have q3 := A0.out.c 3
  have q4 := A0.out.c 4
  have q5 := A0.out.c 5
  have q6 := A0.out.c 6
  have q7 := A0.out.c 7
  have q8 := A0.out.c 8
  have q9 := A0.out.c 9
  have q10 := A0.out.c 10
  have q11 := A0.out.c 11
  have q12 := A0.out.c 12
  have s0 := B0.out.c 0
  have s1 := B0.out.c 1
  have s2 := B0.out.c 2
  have s3 := B0.out.c 3
  have s4 := B0.out.c 4
  have s5 := B0.out.c 5
  have s6 := B0.out.c 6
  have s7 := B0.out.c 7
  have s8 := B0.out.c 8
  have s9 := B0.out.c 9
  have s10 := B0.out.c 10
  have s11 := B0.out.c 11
  have s12 := B0.out.c 12
  go_enter Tryd.func5, Tryd.ntmps5
  go_wp2_with fail
  refine (cL.out _ P0.out.hb).mono ?_
  rintro e v ⟨rfl, hbz⟩
  replace P0 := Aside0.mk (P0.out.next hbz)
  replace A0 := Aside0.mk (A0.out.next hbz)
  replace B0 := Aside0.mk (B0.out.next hbz)
  clear hbz r0 r1 r2 r3 q0 q1 q2 q3 q4 q5 q6 q7 q8 q9 q10 q11 q12 s0 s1 s2 s3 s4 s5 s6 s7 s8 s9 s10 s11 s12
  have r0 := P0.out.c 0
  have r1 := P0.out.c 1
  have r2 := P0.out.c 2
  have r3 := P0.out.c 3
  have q0 := A0.out.c 0
  have q1 := A0.out.c 1
  have q2 := A0.out.c 2
  have q3 := A0.out.c 3
  have q4 := A0.out.c 4
  have q5 := A0.out.c 5
  have q6 := A0.out.c 6
  have q7 := A0.out.c 7
  have q8 := A0.out.c 8
  have q9 := A0.out.c 9
  have q10 := A0.out.c 10
  have q11 := A0.out.c 11
  have q12 := A0.out.c 12
  have s0 := B0.out.c 0
  have s1 := B0.out.c 1
  have s2 := B0.out.c 2
  have s3 := B0.out.c 3
  have s4 := B0.out.c 4
  have s5 := B0.out.c 5
  have s6 := B0.out.c 6
  have s7 := B0.out.c 7
  have s8 := B0.out.c 8
  have s9 := B0.out.c 9
  have s10 := B0.out.c 10
  have s11 := B0.out.c 11
  have s12 := B0.out.c 12
  go_wp2_with fail
  refine (cB.out _ P0.out.hb).mono ?_
  rintro e v ⟨rfl, hbz⟩
  replace P0 := Aside0.mk (P0.out.next hbz)
  replace A0 := Aside0.mk (A0.out.next hbz)
  replace B0 := Aside0.mk (B0.out.next hbz)
  clear hbz r0 r1 r2 r3 q0 q1 q2 q3 q4 q5 q6 q7 q8 q9 q10 q11 q12 s0 s1 s2 s3 s4 s5 s6 s7 s8 s9 s10 s11 s12
  have r0 := P0.out.c 0
  have r1 := P0.out.c 1
  have r2 := P0.out.c 2
  have r3 := P0.out.c 3
  have q0 := A0.out.c 0
  have q1 := A0.out.c 1
  have q2 := A0.out.c 2
  have q3 := A0.out.c 3
  have q4 := A0.out.c 4
  have q5 := A0.out.c 5
  have q6 := A0.out.c 6
  have q7 := A0.out.c 7
  have q8 := A0.out.c 8
  have q9 := A0.out.c 9
  have q10 := A0.out.c 10
  have q11 := A0.out.c 11
  have q12 := A0.out.c 12
  have s0 := B0.out.c 0
  have s1 := B0.out.c 1
  have s2 := B0.out.c 2
  have s3 := B0.out.c 3
  have s4 := B0.out.c 4
  have s5 := B0.out.c 5
  have s6 := B0.out.c 6
  have s7 := B0.out.c 7
  have s8 := B0.out.c 8
  have s9 := B0.out.c 9
  have s10 := B0.out.c 10
  have s11 := B0.out.c 11
  have s12 := B0.out.c 12
  clear cB
  go_wp2_with fail
  refine (cM1.out _ P0.out.hb).mono ?_
  rintro e v ⟨rfl, hbz⟩
  replace P0 := Aside0.mk (P0.out.next hbz)
  replace A0 := Aside0.mk (A0.out.next hbz)
  replace B0 := Aside0.mk (B0.out.next hbz)
  clear hbz r0 r1 r2 r3 q0 q1 q2 q3 q4 q5 q6 q7 q8 q9 q10 q11 q12 s0 s1 s2 s3 s4 s5 s6 s7 s8 s9 s10 s11 s12
  have r0 := P0.out.c 0
  have r1 := P0.out.c 1
  have r2 := P0.out.c 2
  have r3 := P0.out.c 3
  have q0 := A0.out.c 0
  have q1 := A0.out.c 1
  have q2 := A0.out.c 2
  have q3 := A0.out.c 3
  have q4 := A0.out.c 4
  have q5 := A0.out.c 5
  have q6 := A0.out.c 6
  have q7 := A0.out.c 7
  have q8 := A0.out.c 8
  have q9 := A0.out.c 9
  have q10 := A0.out.c 10
  have q11 := A0.out.c 11
  have q12 := A0.out.c 12
  have s0 := B0.out.c 0
  have s1 := B0.out.c 1
  have s2 := B0.out.c 2
  have s3 := B0.out.c 3
  have s4 := B0.out.c 4
  have s5 := B0.out.c 5
  have s6 := B0.out.c 6
  have s7 := B0.out.c 7
  have s8 := B0.out.c 8
  have s9 := B0.out.c 9
  have s10 := B0.out.c 10
  have s11 := B0.out.c 11
  have s12 := B0.out.c 12
  clear cM1
  go_wp2_with fail
  refine (cL.out _ P0.out.hb).mono ?_
  rintro e v ⟨rfl, hbz⟩
  replace P0 := Aside0.mk (P0.out.next hbz)
  replace A0 := Aside0.mk (A0.out.next hbz)
  replace B0 := Aside0.mk (B0.out.next hbz)
  clear hbz r0 r1 r2 r3 q0 q1 q2 q3 q4 q5 q6 q7 q8 q9 q10 q11 q12 s0 s1 s2 s3 s4 s5 s6 s7 s8 s9 s10 s11 s12
  have r0 := P0.out.c 0
  have r1 := P0.out.c 1
  have r2 := P0.out.c 2
  have r3 := P0.out.c 3
  have q0 := A0.out.c 0
  have q1 := A0.out.c 1
  have q2 := A0.out.c 2
  have q3 := A0.out.c 3
  have q4 := A0.out.c 4
  have q5 := A0.out.c 5
  have q6 := A0.out.c 6
  have q7 := A0.out.c 7
  have q8 := A0.out.c 8
  have q9 := A0.out.c 9
  have q10 := A0.out.c 10
  have q11 := A0.out.c 11
  have q12 := A0.out.c 12
  have s0 := B0.out.c 0
  have s1 := B0.out.c 1
  have s2 := B0.out.c 2
  have s3 := B0.out.c 3
  have s4 := B0.out.c 4
  have s5 := B0.out.c 5
  have s6 := B0.out.c 6
  have s7 := B0.out.c 7
  have s8 := B0.out.c 8
  have s9 := B0.out.c 9
  have s10 := B0.out.c 10
  have s11 := B0.out.c 11
  have s12 := B0.out.c 12
  clear cL
  go_wp2_with fail
  go_ret
  exact ⟨rfl, P0.out.hb⟩
set_option maxHeartbeats 16000000 in
set_option maxRecDepth 100000 in
theorem one_mb (p : Plan) (a b : Act) (cp ca cb : List Value) (w : World) (hP : k33.K w p cp) (hA : k42.K w a ca) (hB : k42.K w b cb) (hp : PlanOk p) (ha : ActOk a) (hb : ActOk b) (hT : Lib.Utf8Tabs 0 1 w) (h1 : bigS p = false) (h2 : muchS a = false) (h3 : muchS b = true) :
    Calls Tryd.prog 5 #[.agg cp.toArray, .agg ca.toArray, .agg cb.toArray] w (BoolB true w) := by
  have P0 := Aside0.mk (((Bx.new w cp 33).push (.cells ca.toArray 42)).push (.cells cb.toArray 42))
  have A0 := Aside0.mk (((Bx.new w cp 33).on ca 42 |>.at_ (show _ = w.heap.size + 1 by simp)).push (.cells cb.toArray 42))
  have B0 := Aside0.mk (((Bx.new w cp 33).push (.cells ca.toArray 42)).on cb 42 |>.at_ (show _ = w.heap.size + 1 + 1 by simp))
  have cL := Lib.hid (fun W (hW : Below w.heap.size w W) => ExtQ.live_walk W (ExtQ.tabs_at ⟨hT⟩ hW))
  have cB := Lib.hid (fun W (hW : Below w.heap.size w W) => c_big p cp W (k33.K_below hW hP))
  rw [h1] at cB
  have cM1 := Lib.hid (fun W (hW : Below w.heap.size w W) => c_much a ca W (k42.K_below hW hA))
  rw [h2] at cM1
  have cM2 := Lib.hid (fun W (hW : Below w.heap.size w W) => c_much b cb W (k42.K_below hW hB))
  rw [h3] at cM2
  obtain ⟨A4, c4, A11, c11, A12, c12, rfl, -, -, -, -, -, -⟩ := k42_open hA
  obtain ⟨A4b, c4b, A11b, c11b, A12b, c12b, rfl, -, -, -, -, -, -⟩ := k42_open hB
  obtain ⟨B2, d2, B3, d3, rfl, -, -, -, -⟩ := k33_open hP
  clear hP hA hB hT hp ha hb h1 h2 h3
  have r0 := P0.out.c 0
  have r1 := P0.out.c 1
  have r2 := P0.out.c 2
  have r3 := P0.out.c 3
  have q0 := A0.out.c 0
  have q1 := A0.out.c 1
  have q2 := A0.out.c 2
  have q3 := A0.out.c 3
  have q4 := A0.out.c 4
  have q5 := A0.out.c 5
  have q6 := A0.out.c 6
  have q7 := A0.out.c 7
  have q8 := A0.out.c 8
  have q9 := A0.out.c 9
  have q10 := A0.out.c 10
  have q11 := A0.out.c 11
  have q12 := A0.out.c 12
  have s0 := B0.out.c 0
  have s1 := B0.out.c 1
  have s2 := B0.out.c 2
  have s3 := B0.out.c 3
  have s4 := B0.out.c 4
  have s5 := B0.out.c 5
  have s6 := B0.out.c 6
  have s7 := B0.out.c 7
  have s8 := B0.out.c 8
  have s9 := B0.out.c 9
  have s10 := B0.out.c 10
  have s11 := B0.out.c 11
  have s12 := B0.out.c 12
  go_enter Tryd.func5, Tryd.ntmps5
  go_wp2_with fail
  refine (cL.out _ P0.out.hb).mono ?_
  rintro e v ⟨rfl, hbz⟩
  replace P0 := Aside0.mk (P0.out.next hbz)
  replace A0 := Aside0.mk (A0.out.next hbz)
  replace B0 := Aside0.mk (B0.out.next hbz)
  clear hbz r0 r1 r2 r3 q0 q1 q2 q3 q4 q5 q6 q7 q8 q9 q10 q11 q12 s0 s1 s2 s3 s4 s5 s6 s7 s8 s9 s10 s11 s12
  have r0 := P0.out.c 0
  have r1 := P0.out.c 1
  have r2 := P0.out.c 2
  have r3 := P0.out.c 3
  have q0 := A0.out.c 0
  have q1 := A0.out.c 1
  have q2 := A0.out.c 2
  have q3 := A0.out.c 3
  have q4 := A0.out.c 4
  have q5 := A0.out.c 5
  have q6 := A0.out.c 6
  have q7 := A0.out.c 7
  have q8 := A0.out.c 8
  have q9 := A0.out.c 9
  have q10 := A0.out.c 10
  have q11 := A0.out.c 11
  have q12 := A0.out.c 12
  have s0 := B0.out.c 0
  have s1 := B0.out.c 1
  have s2 := B0.out.c 2
  have s3 := B0.out.c 3
  have s4 := B0.out.c 4
  have s5 := B0.out.c 5
  have s6 := B0.out.c 6
  have s7 := B0.out.c 7
  have s8 := B0.out.c 8
  have s9 := B0.out.c 9
  have s10 := B0.out.c 10
  have s11 := B0.out.c 11
  have s12 := B0.out.c 12
  go_wp2_with fail
  refine (cB.out _ P0.out.hb).mono ?_
  rintro e v ⟨rfl, hbz⟩
  replace P0 := Aside0.mk (P0.out.next hbz)
  replace A0 := Aside0.mk (A0.out.next hbz)
  replace B0 := Aside0.mk (B0.out.next hbz)
  clear hbz r0 r1 r2 r3 q0 q1 q2 q3 q4 q5 q6 q7 q8 q9 q10 q11 q12 s0 s1 s2 s3 s4 s5 s6 s7 s8 s9 s10 s11 s12
  have r0 := P0.out.c 0
  have r1 := P0.out.c 1
  have r2 := P0.out.c 2
  have r3 := P0.out.c 3
  have q0 := A0.out.c 0
  have q1 := A0.out.c 1
  have q2 := A0.out.c 2
  have q3 := A0.out.c 3
  have q4 := A0.out.c 4
  have q5 := A0.out.c 5
  have q6 := A0.out.c 6
  have q7 := A0.out.c 7
  have q8 := A0.out.c 8
  have q9 := A0.out.c 9
  have q10 := A0.out.c 10
  have q11 := A0.out.c 11
  have q12 := A0.out.c 12
  have s0 := B0.out.c 0
  have s1 := B0.out.c 1
  have s2 := B0.out.c 2
  have s3 := B0.out.c 3
  have s4 := B0.out.c 4
  have s5 := B0.out.c 5
  have s6 := B0.out.c 6
  have s7 := B0.out.c 7
  have s8 := B0.out.c 8
  have s9 := B0.out.c 9
  have s10 := B0.out.c 10
  have s11 := B0.out.c 11
  have s12 := B0.out.c 12
  clear cB
  go_wp2_with fail
  refine (cM1.out _ P0.out.hb).mono ?_
  rintro e v ⟨rfl, hbz⟩
  replace P0 := Aside0.mk (P0.out.next hbz)
  replace A0 := Aside0.mk (A0.out.next hbz)
  replace B0 := Aside0.mk (B0.out.next hbz)
  clear hbz r0 r1 r2 r3 q0 q1 q2 q3 q4 q5 q6 q7 q8 q9 q10 q11 q12 s0 s1 s2 s3 s4 s5 s6 s7 s8 s9 s10 s11 s12
  have r0 := P0.out.c 0
  have r1 := P0.out.c 1
  have r2 := P0.out.c 2
  have r3 := P0.out.c 3
  have q0 := A0.out.c 0
  have q1 := A0.out.c 1
  have q2 := A0.out.c 2
  have q3 := A0.out.c 3
  have q4 := A0.out.c 4
  have q5 := A0.out.c 5
  have q6 := A0.out.c 6
  have q7 := A0.out.c 7
  have q8 := A0.out.c 8
  have q9 := A0.out.c 9
  have q10 := A0.out.c 10
  have q11 := A0.out.c 11
  have q12 := A0.out.c 12
  have s0 := B0.out.c 0
  have s1 := B0.out.c 1
  have s2 := B0.out.c 2
  have s3 := B0.out.c 3
  have s4 := B0.out.c 4
  have s5 := B0.out.c 5
  have s6 := B0.out.c 6
  have s7 := B0.out.c 7
  have s8 := B0.out.c 8
  have s9 := B0.out.c 9
  have s10 := B0.out.c 10
  have s11 := B0.out.c 11
  have s12 := B0.out.c 12
  clear cM1
  go_wp2_with fail
  refine (cM2.out _ P0.out.hb).mono ?_
  rintro e v ⟨rfl, hbz⟩
  replace P0 := Aside0.mk (P0.out.next hbz)
  replace A0 := Aside0.mk (A0.out.next hbz)
  replace B0 := Aside0.mk (B0.out.next hbz)
  clear hbz r0 r1 r2 r3 q0 q1 q2 q3 q4 q5 q6 q7 q8 q9 q10 q11 q12 s0 s1 s2 s3 s4 s5 s6 s7 s8 s9 s10 s11 s12
  have r0 := P0.out.c 0
  have r1 := P0.out.c 1
  have r2 := P0.out.c 2
  have r3 := P0.out.c 3
  have q0 := A0.out.c 0
  have q1 := A0.out.c 1
  have q2 := A0.out.c 2
  have q3 := A0.out.c 3
  have q4 := A0.out.c 4
  have q5 := A0.out.c 5
  have q6 := A0.out.c 6
  have q7 := A0.out.c 7
  have q8 := A0.out.c 8
  have q9 := A0.out.c 9
  have q10 := A0.out.c 10
  have q11 := A0.out.c 11
  have q12 := A0.out.c 12
  have s0 := B0.out.c 0
  have s1 := B0.out.c 1
  have s2 := B0.out.c 2
  have s3 := B0.out.c 3
  have s4 := B0.out.c 4
  have s5 := B0.out.c 5
  have s6 := B0.out.c 6
  have s7 := B0.out.c 7
  have s8 := B0.out.c 8
  have s9 := B0.out.c 9
  have s10 := B0.out.c 10
  have s11 := B0.out.c 11
  have s12 := B0.out.c 12
  clear cM2
  go_wp2_with fail
  refine (cL.out _ P0.out.hb).mono ?_
  rintro e v ⟨rfl, hbz⟩
  replace P0 := Aside0.mk (P0.out.next hbz)
  replace A0 := Aside0.mk (A0.out.next hbz)
  replace B0 := Aside0.mk (B0.out.next hbz)
  clear hbz r0 r1 r2 r3 q0 q1 q2 q3 q4 q5 q6 q7 q8 q9 q10 q11 q12 s0 s1 s2 s3 s4 s5 s6 s7 s8 s9 s10 s11 s12
  have r0 := P0.out.c 0
  have r1 := P0.out.c 1
  have r2 := P0.out.c 2
  have r3 := P0.out.c 3
  have q0 := A0.out.c 0
  have q1 := A0.out.c 1
  have q2 := A0.out.c 2
  have q3 := A0.out.c 3
  have q4 := A0.out.c 4
  have q5 := A0.out.c 5
  have q6 := A0.out.c 6
  have q7 := A0.out.c 7
  have q8 := A0.out.c 8
  have q9 := A0.out.c 9
  have q10 := A0.out.c 10
  have q11 := A0.out.c 11
  have q12 := A0.out.c 12
  have s0 := B0.out.c 0
  have s1 := B0.out.c 1
  have s2 := B0.out.c 2
  have s3 := B0.out.c 3
  have s4 := B0.out.c 4
  have s5 := B0.out.c 5
  have s6 := B0.out.c 6
  have s7 := B0.out.c 7
  have s8 := B0.out.c 8
  have s9 := B0.out.c 9
  have s10 := B0.out.c 10
  have s11 := B0.out.c 11
  have s12 := B0.out.c 12
  clear cL
  go_wp2_with fail
  go_ret
  exact ⟨rfl, P0.out.hb⟩
set_option maxHeartbeats 16000000 in
set_option maxRecDepth 100000 in
theorem one_nn (p : Plan) (a b : Act) (cp ca cb : List Value) (w : World) (hP : k33.K w p cp) (hA : k42.K w a ca) (hB : k42.K w b cb) (hp : PlanOk p) (ha : ActOk a) (hb : ActOk b) (hT : Lib.Utf8Tabs 0 1 w) (h1 : bigS p = false) (h2 : muchS a = false) (h3 : muchS b = false) (ya : ¬ (headedS p.f0 p.f1 p.f2 = true ∧ mayS p.f2.length a = true)) (yb : ¬ (headedS p.f0 p.f1 p.f2 = true ∧ mayS p.f2.length b = true)) :
    Calls Tryd.prog 5 #[.agg cp.toArray, .agg ca.toArray, .agg cb.toArray] w (BoolB true w) := by
  have P0 := Aside0.mk (((Bx.new w cp 33).push (.cells ca.toArray 42)).push (.cells cb.toArray 42))
  have A0 := Aside0.mk (((Bx.new w cp 33).on ca 42 |>.at_ (show _ = w.heap.size + 1 by simp)).push (.cells cb.toArray 42))
  have B0 := Aside0.mk (((Bx.new w cp 33).push (.cells ca.toArray 42)).on cb 42 |>.at_ (show _ = w.heap.size + 1 + 1 by simp))
  have cL := Lib.hid (fun W (hW : Below w.heap.size w W) => ExtQ.live_walk W (ExtQ.tabs_at ⟨hT⟩ hW))
  have cB := Lib.hid (fun W (hW : Below w.heap.size w W) => c_big p cp W (k33.K_below hW hP))
  rw [h1] at cB
  have cM1 := Lib.hid (fun W (hW : Below w.heap.size w W) => c_much a ca W (k42.K_below hW hA))
  rw [h2] at cM1
  have cM2 := Lib.hid (fun W (hW : Below w.heap.size w W) => c_much b cb W (k42.K_below hW hB))
  rw [h3] at cM2
  have e1 : lineE p a = (⟨#[]⟩, 270) := if_neg ya
  have e2 : lineE p b = (⟨#[]⟩, 270) := if_neg yb
  have cS1 := Lib.hid (fun W (hW : Below w.heap.size w W) => c_SLine p a cp ca W (k33.K_below hW hP) (k42.K_below hW hA) (planBd h1 hp) ha.bd (fun hy => say_ok (fun j => Nat.le_trans ((big_names h1).2 j) (by omega)) ha h2 hy) (Utf8Tabs_below hT hW))
  simp only [e1] at cS1
  have cS2 := Lib.hid (fun W (hW : Below w.heap.size w W) => c_SLine p b cp cb W (k33.K_below hW hP) (k42.K_below hW hB) (planBd h1 hp) hb.bd (fun hy => say_ok (fun j => Nat.le_trans ((big_names h1).2 j) (by omega)) hb h3 hy) (Utf8Tabs_below hT hW))
  simp only [e2] at cS2
  obtain ⟨A4, c4, A11, c11, A12, c12, rfl, -, -, -, -, -, -⟩ := k42_open hA
  obtain ⟨A4b, c4b, A11b, c11b, A12b, c12b, rfl, -, -, -, -, -, -⟩ := k42_open hB
  obtain ⟨B2, d2, B3, d3, rfl, -, -, -, -⟩ := k33_open hP
  clear hP hA hB hT hp ha hb h1 h2 h3 e1 e2 ya yb
  have r0 := P0.out.c 0
  have r1 := P0.out.c 1
  have r2 := P0.out.c 2
  have r3 := P0.out.c 3
  have q0 := A0.out.c 0
  have q1 := A0.out.c 1
  have q2 := A0.out.c 2
  have q3 := A0.out.c 3
  have q4 := A0.out.c 4
  have q5 := A0.out.c 5
  have q6 := A0.out.c 6
  have q7 := A0.out.c 7
  have q8 := A0.out.c 8
  have q9 := A0.out.c 9
  have q10 := A0.out.c 10
  have q11 := A0.out.c 11
  have q12 := A0.out.c 12
  have s0 := B0.out.c 0
  have s1 := B0.out.c 1
  have s2 := B0.out.c 2
  have s3 := B0.out.c 3
  have s4 := B0.out.c 4
  have s5 := B0.out.c 5
  have s6 := B0.out.c 6
  have s7 := B0.out.c 7
  have s8 := B0.out.c 8
  have s9 := B0.out.c 9
  have s10 := B0.out.c 10
  have s11 := B0.out.c 11
  have s12 := B0.out.c 12
  go_enter Tryd.func5, Tryd.ntmps5
  go_wp2_with fail
  refine (cL.out _ P0.out.hb).mono ?_
  rintro e v ⟨rfl, hbz⟩
  replace P0 := Aside0.mk (P0.out.next hbz)
  replace A0 := Aside0.mk (A0.out.next hbz)
  replace B0 := Aside0.mk (B0.out.next hbz)
  clear hbz r0 r1 r2 r3 q0 q1 q2 q3 q4 q5 q6 q7 q8 q9 q10 q11 q12 s0 s1 s2 s3 s4 s5 s6 s7 s8 s9 s10 s11 s12
  have r0 := P0.out.c 0
  have r1 := P0.out.c 1
  have r2 := P0.out.c 2
  have r3 := P0.out.c 3
  have q0 := A0.out.c 0
  have q1 := A0.out.c 1
  have q2 := A0.out.c 2
  have q3 := A0.out.c 3
  have q4 := A0.out.c 4
  have q5 := A0.out.c 5
  have q6 := A0.out.c 6
  have q7 := A0.out.c 7
  have q8 := A0.out.c 8
  have q9 := A0.out.c 9
  have q10 := A0.out.c 10
  have q11 := A0.out.c 11
  have q12 := A0.out.c 12
  have s0 := B0.out.c 0
  have s1 := B0.out.c 1
  have s2 := B0.out.c 2
  have s3 := B0.out.c 3
  have s4 := B0.out.c 4
  have s5 := B0.out.c 5
  have s6 := B0.out.c 6
  have s7 := B0.out.c 7
  have s8 := B0.out.c 8
  have s9 := B0.out.c 9
  have s10 := B0.out.c 10
  have s11 := B0.out.c 11
  have s12 := B0.out.c 12
  go_wp2_with fail
  refine (cB.out _ P0.out.hb).mono ?_
  rintro e v ⟨rfl, hbz⟩
  replace P0 := Aside0.mk (P0.out.next hbz)
  replace A0 := Aside0.mk (A0.out.next hbz)
  replace B0 := Aside0.mk (B0.out.next hbz)
  clear hbz r0 r1 r2 r3 q0 q1 q2 q3 q4 q5 q6 q7 q8 q9 q10 q11 q12 s0 s1 s2 s3 s4 s5 s6 s7 s8 s9 s10 s11 s12
  have r0 := P0.out.c 0
  have r1 := P0.out.c 1
  have r2 := P0.out.c 2
  have r3 := P0.out.c 3
  have q0 := A0.out.c 0
  have q1 := A0.out.c 1
  have q2 := A0.out.c 2
  have q3 := A0.out.c 3
  have q4 := A0.out.c 4
  have q5 := A0.out.c 5
  have q6 := A0.out.c 6
  have q7 := A0.out.c 7
  have q8 := A0.out.c 8
  have q9 := A0.out.c 9
  have q10 := A0.out.c 10
  have q11 := A0.out.c 11
  have q12 := A0.out.c 12
  have s0 := B0.out.c 0
  have s1 := B0.out.c 1
  have s2 := B0.out.c 2
  have s3 := B0.out.c 3
  have s4 := B0.out.c 4
  have s5 := B0.out.c 5
  have s6 := B0.out.c 6
  have s7 := B0.out.c 7
  have s8 := B0.out.c 8
  have s9 := B0.out.c 9
  have s10 := B0.out.c 10
  have s11 := B0.out.c 11
  have s12 := B0.out.c 12
  clear cB
  go_wp2_with fail
  clear cL
  refine (cM1.out _ P0.out.hb).mono ?_
  rintro e v ⟨rfl, hbz⟩
  replace P0 := Aside0.mk (P0.out.next hbz)
  replace A0 := Aside0.mk (A0.out.next hbz)
  replace B0 := Aside0.mk (B0.out.next hbz)
  clear hbz r0 r1 r2 r3 q0 q1 q2 q3 q4 q5 q6 q7 q8 q9 q10 q11 q12 s0 s1 s2 s3 s4 s5 s6 s7 s8 s9 s10 s11 s12
  have r0 := P0.out.c 0
  have r1 := P0.out.c 1
  have r2 := P0.out.c 2
  have r3 := P0.out.c 3
  have q0 := A0.out.c 0
  have q1 := A0.out.c 1
  have q2 := A0.out.c 2
  have q3 := A0.out.c 3
  have q4 := A0.out.c 4
  have q5 := A0.out.c 5
  have q6 := A0.out.c 6
  have q7 := A0.out.c 7
  have q8 := A0.out.c 8
  have q9 := A0.out.c 9
  have q10 := A0.out.c 10
  have q11 := A0.out.c 11
  have q12 := A0.out.c 12
  have s0 := B0.out.c 0
  have s1 := B0.out.c 1
  have s2 := B0.out.c 2
  have s3 := B0.out.c 3
  have s4 := B0.out.c 4
  have s5 := B0.out.c 5
  have s6 := B0.out.c 6
  have s7 := B0.out.c 7
  have s8 := B0.out.c 8
  have s9 := B0.out.c 9
  have s10 := B0.out.c 10
  have s11 := B0.out.c 11
  have s12 := B0.out.c 12
  clear cM1
  go_wp2_with fail
  refine (cM2.out _ P0.out.hb).mono ?_
  rintro e v ⟨rfl, hbz⟩
  replace P0 := Aside0.mk (P0.out.next hbz)
  replace A0 := Aside0.mk (A0.out.next hbz)
  replace B0 := Aside0.mk (B0.out.next hbz)
  clear hbz r0 r1 r2 r3 q0 q1 q2 q3 q4 q5 q6 q7 q8 q9 q10 q11 q12 s0 s1 s2 s3 s4 s5 s6 s7 s8 s9 s10 s11 s12
  have r0 := P0.out.c 0
  have r1 := P0.out.c 1
  have r2 := P0.out.c 2
  have r3 := P0.out.c 3
  have q0 := A0.out.c 0
  have q1 := A0.out.c 1
  have q2 := A0.out.c 2
  have q3 := A0.out.c 3
  have q4 := A0.out.c 4
  have q5 := A0.out.c 5
  have q6 := A0.out.c 6
  have q7 := A0.out.c 7
  have q8 := A0.out.c 8
  have q9 := A0.out.c 9
  have q10 := A0.out.c 10
  have q11 := A0.out.c 11
  have q12 := A0.out.c 12
  have s0 := B0.out.c 0
  have s1 := B0.out.c 1
  have s2 := B0.out.c 2
  have s3 := B0.out.c 3
  have s4 := B0.out.c 4
  have s5 := B0.out.c 5
  have s6 := B0.out.c 6
  have s7 := B0.out.c 7
  have s8 := B0.out.c 8
  have s9 := B0.out.c 9
  have s10 := B0.out.c 10
  have s11 := B0.out.c 11
  have s12 := B0.out.c 12
  clear cM2
  go_wp2_with fail
  refine (cS1.out _ P0.out.hb).mono ?_
  rintro e v ⟨rfl, hbz⟩
  replace P0 := Aside0.mk (P0.out.next hbz)
  replace A0 := Aside0.mk (A0.out.next hbz)
  replace B0 := Aside0.mk (B0.out.next hbz)
  clear hbz r0 r1 r2 r3 q0 q1 q2 q3 q4 q5 q6 q7 q8 q9 q10 q11 q12 s0 s1 s2 s3 s4 s5 s6 s7 s8 s9 s10 s11 s12
  have r0 := P0.out.c 0
  have r1 := P0.out.c 1
  have r2 := P0.out.c 2
  have r3 := P0.out.c 3
  have q0 := A0.out.c 0
  have q1 := A0.out.c 1
  have q2 := A0.out.c 2
  have q3 := A0.out.c 3
  have q4 := A0.out.c 4
  have q5 := A0.out.c 5
  have q6 := A0.out.c 6
  have q7 := A0.out.c 7
  have q8 := A0.out.c 8
  have q9 := A0.out.c 9
  have q10 := A0.out.c 10
  have q11 := A0.out.c 11
  have q12 := A0.out.c 12
  have s0 := B0.out.c 0
  have s1 := B0.out.c 1
  have s2 := B0.out.c 2
  have s3 := B0.out.c 3
  have s4 := B0.out.c 4
  have s5 := B0.out.c 5
  have s6 := B0.out.c 6
  have s7 := B0.out.c 7
  have s8 := B0.out.c 8
  have s9 := B0.out.c 9
  have s10 := B0.out.c 10
  have s11 := B0.out.c 11
  have s12 := B0.out.c 12
  clear cS1
  go_wp2_with fail
  refine (cS2.out _ P0.out.hb).mono ?_
  rintro e v ⟨rfl, hbz⟩
  replace P0 := Aside0.mk (P0.out.next hbz)
  replace A0 := Aside0.mk (A0.out.next hbz)
  replace B0 := Aside0.mk (B0.out.next hbz)
  clear hbz r0 r1 r2 r3 q0 q1 q2 q3 q4 q5 q6 q7 q8 q9 q10 q11 q12 s0 s1 s2 s3 s4 s5 s6 s7 s8 s9 s10 s11 s12
  have r0 := P0.out.c 0
  have r1 := P0.out.c 1
  have r2 := P0.out.c 2
  have r3 := P0.out.c 3
  have q0 := A0.out.c 0
  have q1 := A0.out.c 1
  have q2 := A0.out.c 2
  have q3 := A0.out.c 3
  have q4 := A0.out.c 4
  have q5 := A0.out.c 5
  have q6 := A0.out.c 6
  have q7 := A0.out.c 7
  have q8 := A0.out.c 8
  have q9 := A0.out.c 9
  have q10 := A0.out.c 10
  have q11 := A0.out.c 11
  have q12 := A0.out.c 12
  have s0 := B0.out.c 0
  have s1 := B0.out.c 1
  have s2 := B0.out.c 2
  have s3 := B0.out.c 3
  have s4 := B0.out.c 4
  have s5 := B0.out.c 5
  have s6 := B0.out.c 6
  have s7 := B0.out.c 7
  have s8 := B0.out.c 8
  have s9 := B0.out.c 9
  have s10 := B0.out.c 10
  have s11 := B0.out.c 11
  have s12 := B0.out.c 12
  clear cS2
  go_wp2_with fail
  go_ret
  exact ⟨rfl, P0.out.hb⟩
set_option maxHeartbeats 16000000 in
set_option maxRecDepth 100000 in
theorem one_ny (p : Plan) (a b : Act) (cp ca cb : List Value) (w : World) (hP : k33.K w p cp) (hA : k42.K w a ca) (hB : k42.K w b cb) (hp : PlanOk p) (ha : ActOk a) (hb : ActOk b) (hT : Lib.Utf8Tabs 0 1 w) (h1 : bigS p = false) (h2 : muchS a = false) (h3 : muchS b = false) (ya : ¬ (headedS p.f0 p.f1 p.f2 = true ∧ mayS p.f2.length a = true)) (yb : headedS p.f0 p.f1 p.f2 = true ∧ mayS p.f2.length b = true) :
    Calls Tryd.prog 5 #[.agg cp.toArray, .agg ca.toArray, .agg cb.toArray] w (BoolB true w) := by
  have P0 := Aside0.mk (((Bx.new w cp 33).push (.cells ca.toArray 42)).push (.cells cb.toArray 42))
  have A0 := Aside0.mk (((Bx.new w cp 33).on ca 42 |>.at_ (show _ = w.heap.size + 1 by simp)).push (.cells cb.toArray 42))
  have B0 := Aside0.mk (((Bx.new w cp 33).push (.cells ca.toArray 42)).on cb 42 |>.at_ (show _ = w.heap.size + 1 + 1 by simp))
  have cL := Lib.hid (fun W (hW : Below w.heap.size w W) => ExtQ.live_walk W (ExtQ.tabs_at ⟨hT⟩ hW))
  have cB := Lib.hid (fun W (hW : Below w.heap.size w W) => c_big p cp W (k33.K_below hW hP))
  rw [h1] at cB
  have cM1 := Lib.hid (fun W (hW : Below w.heap.size w W) => c_much a ca W (k42.K_below hW hA))
  rw [h2] at cM1
  have cM2 := Lib.hid (fun W (hW : Below w.heap.size w W) => c_much b cb W (k42.K_below hW hB))
  rw [h3] at cM2
  have e1 : lineE p a = (⟨#[]⟩, 270) := if_neg ya
  have e2 : lineE p b = (lineB p.f2 b, 0) := if_pos yb
  have cS1 := Lib.hid (fun W (hW : Below w.heap.size w W) => c_SLine p a cp ca W (k33.K_below hW hP) (k42.K_below hW hA) (planBd h1 hp) ha.bd (fun hy => say_ok (fun j => Nat.le_trans ((big_names h1).2 j) (by omega)) ha h2 hy) (Utf8Tabs_below hT hW))
  simp only [e1] at cS1
  have cS2 := Lib.hid (fun W (hW : Below w.heap.size w W) => c_SLine p b cp cb W (k33.K_below hW hP) (k42.K_below hW hB) (planBd h1 hp) hb.bd (fun hy => say_ok (fun j => Nat.le_trans ((big_names h1).2 j) (by omega)) hb h3 hy) (Utf8Tabs_below hT hW))
  simp only [e2] at cS2
  obtain ⟨A4, c4, A11, c11, A12, c12, rfl, -, -, -, -, -, -⟩ := k42_open hA
  obtain ⟨A4b, c4b, A11b, c11b, A12b, c12b, rfl, -, -, -, -, -, -⟩ := k42_open hB
  obtain ⟨B2, d2, B3, d3, rfl, -, -, -, -⟩ := k33_open hP
  clear hP hA hB hT hp ha hb h1 h2 h3 e1 e2 ya yb
  have r0 := P0.out.c 0
  have r1 := P0.out.c 1
  have r2 := P0.out.c 2
  have r3 := P0.out.c 3
  have q0 := A0.out.c 0
  have q1 := A0.out.c 1
  have q2 := A0.out.c 2
  have q3 := A0.out.c 3
  have q4 := A0.out.c 4
  have q5 := A0.out.c 5
  have q6 := A0.out.c 6
  have q7 := A0.out.c 7
  have q8 := A0.out.c 8
  have q9 := A0.out.c 9
  have q10 := A0.out.c 10
  have q11 := A0.out.c 11
  have q12 := A0.out.c 12
  have s0 := B0.out.c 0
  have s1 := B0.out.c 1
  have s2 := B0.out.c 2
  have s3 := B0.out.c 3
  have s4 := B0.out.c 4
  have s5 := B0.out.c 5
  have s6 := B0.out.c 6
  have s7 := B0.out.c 7
  have s8 := B0.out.c 8
  have s9 := B0.out.c 9
  have s10 := B0.out.c 10
  have s11 := B0.out.c 11
  have s12 := B0.out.c 12
  generalize lineB p.f2 b = Lb at *
  go_enter Tryd.func5, Tryd.ntmps5
  go_wp2_with fail
  refine (cL.out _ P0.out.hb).mono ?_
  rintro e v ⟨rfl, hbz⟩
  replace P0 := Aside0.mk (P0.out.next hbz)
  replace A0 := Aside0.mk (A0.out.next hbz)
  replace B0 := Aside0.mk (B0.out.next hbz)
  clear hbz r0 r1 r2 r3 q0 q1 q2 q3 q4 q5 q6 q7 q8 q9 q10 q11 q12 s0 s1 s2 s3 s4 s5 s6 s7 s8 s9 s10 s11 s12
  have r0 := P0.out.c 0
  have r1 := P0.out.c 1
  have r2 := P0.out.c 2
  have r3 := P0.out.c 3
  have q0 := A0.out.c 0
  have q1 := A0.out.c 1
  have q2 := A0.out.c 2
  have q3 := A0.out.c 3
  have q4 := A0.out.c 4
  have q5 := A0.out.c 5
  have q6 := A0.out.c 6
  have q7 := A0.out.c 7
  have q8 := A0.out.c 8
  have q9 := A0.out.c 9
  have q10 := A0.out.c 10
  have q11 := A0.out.c 11
  have q12 := A0.out.c 12
  have s0 := B0.out.c 0
  have s1 := B0.out.c 1
  have s2 := B0.out.c 2
  have s3 := B0.out.c 3
  have s4 := B0.out.c 4
  have s5 := B0.out.c 5
  have s6 := B0.out.c 6
  have s7 := B0.out.c 7
  have s8 := B0.out.c 8
  have s9 := B0.out.c 9
  have s10 := B0.out.c 10
  have s11 := B0.out.c 11
  have s12 := B0.out.c 12
  go_wp2_with fail
  refine (cB.out _ P0.out.hb).mono ?_
  rintro e v ⟨rfl, hbz⟩
  replace P0 := Aside0.mk (P0.out.next hbz)
  replace A0 := Aside0.mk (A0.out.next hbz)
  replace B0 := Aside0.mk (B0.out.next hbz)
  clear hbz r0 r1 r2 r3 q0 q1 q2 q3 q4 q5 q6 q7 q8 q9 q10 q11 q12 s0 s1 s2 s3 s4 s5 s6 s7 s8 s9 s10 s11 s12
  have r0 := P0.out.c 0
  have r1 := P0.out.c 1
  have r2 := P0.out.c 2
  have r3 := P0.out.c 3
  have q0 := A0.out.c 0
  have q1 := A0.out.c 1
  have q2 := A0.out.c 2
  have q3 := A0.out.c 3
  have q4 := A0.out.c 4
  have q5 := A0.out.c 5
  have q6 := A0.out.c 6
  have q7 := A0.out.c 7
  have q8 := A0.out.c 8
  have q9 := A0.out.c 9
  have q10 := A0.out.c 10
  have q11 := A0.out.c 11
  have q12 := A0.out.c 12
  have s0 := B0.out.c 0
  have s1 := B0.out.c 1
  have s2 := B0.out.c 2
  have s3 := B0.out.c 3
  have s4 := B0.out.c 4
  have s5 := B0.out.c 5
  have s6 := B0.out.c 6
  have s7 := B0.out.c 7
  have s8 := B0.out.c 8
  have s9 := B0.out.c 9
  have s10 := B0.out.c 10
  have s11 := B0.out.c 11
  have s12 := B0.out.c 12
  clear cB
  go_wp2_with fail
  clear cL
  refine (cM1.out _ P0.out.hb).mono ?_
  rintro e v ⟨rfl, hbz⟩
  replace P0 := Aside0.mk (P0.out.next hbz)
  replace A0 := Aside0.mk (A0.out.next hbz)
  replace B0 := Aside0.mk (B0.out.next hbz)
  clear hbz r0 r1 r2 r3 q0 q1 q2 q3 q4 q5 q6 q7 q8 q9 q10 q11 q12 s0 s1 s2 s3 s4 s5 s6 s7 s8 s9 s10 s11 s12
  have r0 := P0.out.c 0
  have r1 := P0.out.c 1
  have r2 := P0.out.c 2
  have r3 := P0.out.c 3
  have q0 := A0.out.c 0
  have q1 := A0.out.c 1
  have q2 := A0.out.c 2
  have q3 := A0.out.c 3
  have q4 := A0.out.c 4
  have q5 := A0.out.c 5
  have q6 := A0.out.c 6
  have q7 := A0.out.c 7
  have q8 := A0.out.c 8
  have q9 := A0.out.c 9
  have q10 := A0.out.c 10
  have q11 := A0.out.c 11
  have q12 := A0.out.c 12
  have s0 := B0.out.c 0
  have s1 := B0.out.c 1
  have s2 := B0.out.c 2
  have s3 := B0.out.c 3
  have s4 := B0.out.c 4
  have s5 := B0.out.c 5
  have s6 := B0.out.c 6
  have s7 := B0.out.c 7
  have s8 := B0.out.c 8
  have s9 := B0.out.c 9
  have s10 := B0.out.c 10
  have s11 := B0.out.c 11
  have s12 := B0.out.c 12
  clear cM1
  go_wp2_with fail
  refine (cM2.out _ P0.out.hb).mono ?_
  rintro e v ⟨rfl, hbz⟩
  replace P0 := Aside0.mk (P0.out.next hbz)
  replace A0 := Aside0.mk (A0.out.next hbz)
  replace B0 := Aside0.mk (B0.out.next hbz)
  clear hbz r0 r1 r2 r3 q0 q1 q2 q3 q4 q5 q6 q7 q8 q9 q10 q11 q12 s0 s1 s2 s3 s4 s5 s6 s7 s8 s9 s10 s11 s12
  have r0 := P0.out.c 0
  have r1 := P0.out.c 1
  have r2 := P0.out.c 2
  have r3 := P0.out.c 3
  have q0 := A0.out.c 0
  have q1 := A0.out.c 1
  have q2 := A0.out.c 2
  have q3 := A0.out.c 3
  have q4 := A0.out.c 4
  have q5 := A0.out.c 5
  have q6 := A0.out.c 6
  have q7 := A0.out.c 7
  have q8 := A0.out.c 8
  have q9 := A0.out.c 9
  have q10 := A0.out.c 10
  have q11 := A0.out.c 11
  have q12 := A0.out.c 12
  have s0 := B0.out.c 0
  have s1 := B0.out.c 1
  have s2 := B0.out.c 2
  have s3 := B0.out.c 3
  have s4 := B0.out.c 4
  have s5 := B0.out.c 5
  have s6 := B0.out.c 6
  have s7 := B0.out.c 7
  have s8 := B0.out.c 8
  have s9 := B0.out.c 9
  have s10 := B0.out.c 10
  have s11 := B0.out.c 11
  have s12 := B0.out.c 12
  clear cM2
  go_wp2_with fail
  refine (cS1.out _ P0.out.hb).mono ?_
  rintro e v ⟨rfl, hbz⟩
  replace P0 := Aside0.mk (P0.out.next hbz)
  replace A0 := Aside0.mk (A0.out.next hbz)
  replace B0 := Aside0.mk (B0.out.next hbz)
  clear hbz r0 r1 r2 r3 q0 q1 q2 q3 q4 q5 q6 q7 q8 q9 q10 q11 q12 s0 s1 s2 s3 s4 s5 s6 s7 s8 s9 s10 s11 s12
  have r0 := P0.out.c 0
  have r1 := P0.out.c 1
  have r2 := P0.out.c 2
  have r3 := P0.out.c 3
  have q0 := A0.out.c 0
  have q1 := A0.out.c 1
  have q2 := A0.out.c 2
  have q3 := A0.out.c 3
  have q4 := A0.out.c 4
  have q5 := A0.out.c 5
  have q6 := A0.out.c 6
  have q7 := A0.out.c 7
  have q8 := A0.out.c 8
  have q9 := A0.out.c 9
  have q10 := A0.out.c 10
  have q11 := A0.out.c 11
  have q12 := A0.out.c 12
  have s0 := B0.out.c 0
  have s1 := B0.out.c 1
  have s2 := B0.out.c 2
  have s3 := B0.out.c 3
  have s4 := B0.out.c 4
  have s5 := B0.out.c 5
  have s6 := B0.out.c 6
  have s7 := B0.out.c 7
  have s8 := B0.out.c 8
  have s9 := B0.out.c 9
  have s10 := B0.out.c 10
  have s11 := B0.out.c 11
  have s12 := B0.out.c 12
  clear cS1
  go_wp2_with fail
  refine (cS2.out _ P0.out.hb).mono ?_
  rintro e v ⟨rfl, hbz⟩
  replace P0 := Aside0.mk (P0.out.next hbz)
  replace A0 := Aside0.mk (A0.out.next hbz)
  replace B0 := Aside0.mk (B0.out.next hbz)
  clear hbz r0 r1 r2 r3 q0 q1 q2 q3 q4 q5 q6 q7 q8 q9 q10 q11 q12 s0 s1 s2 s3 s4 s5 s6 s7 s8 s9 s10 s11 s12
  have r0 := P0.out.c 0
  have r1 := P0.out.c 1
  have r2 := P0.out.c 2
  have r3 := P0.out.c 3
  have q0 := A0.out.c 0
  have q1 := A0.out.c 1
  have q2 := A0.out.c 2
  have q3 := A0.out.c 3
  have q4 := A0.out.c 4
  have q5 := A0.out.c 5
  have q6 := A0.out.c 6
  have q7 := A0.out.c 7
  have q8 := A0.out.c 8
  have q9 := A0.out.c 9
  have q10 := A0.out.c 10
  have q11 := A0.out.c 11
  have q12 := A0.out.c 12
  have s0 := B0.out.c 0
  have s1 := B0.out.c 1
  have s2 := B0.out.c 2
  have s3 := B0.out.c 3
  have s4 := B0.out.c 4
  have s5 := B0.out.c 5
  have s6 := B0.out.c 6
  have s7 := B0.out.c 7
  have s8 := B0.out.c 8
  have s9 := B0.out.c 9
  have s10 := B0.out.c 10
  have s11 := B0.out.c 11
  have s12 := B0.out.c 12
  clear cS2
  go_wp2_with fail
  go_ret
  exact ⟨rfl, P0.out.hb⟩
set_option maxHeartbeats 16000000 in
set_option maxRecDepth 100000 in
theorem one_yn (p : Plan) (a b : Act) (cp ca cb : List Value) (w : World) (hP : k33.K w p cp) (hA : k42.K w a ca) (hB : k42.K w b cb) (hp : PlanOk p) (ha : ActOk a) (hb : ActOk b) (hT : Lib.Utf8Tabs 0 1 w) (h1 : bigS p = false) (h2 : muchS a = false) (h3 : muchS b = false) (ya : headedS p.f0 p.f1 p.f2 = true ∧ mayS p.f2.length a = true) (yb : ¬ (headedS p.f0 p.f1 p.f2 = true ∧ mayS p.f2.length b = true)) :
    Calls Tryd.prog 5 #[.agg cp.toArray, .agg ca.toArray, .agg cb.toArray] w (BoolB true w) := by
  have P0 := Aside0.mk (((Bx.new w cp 33).push (.cells ca.toArray 42)).push (.cells cb.toArray 42))
  have A0 := Aside0.mk (((Bx.new w cp 33).on ca 42 |>.at_ (show _ = w.heap.size + 1 by simp)).push (.cells cb.toArray 42))
  have B0 := Aside0.mk (((Bx.new w cp 33).push (.cells ca.toArray 42)).on cb 42 |>.at_ (show _ = w.heap.size + 1 + 1 by simp))
  have cL := Lib.hid (fun W (hW : Below w.heap.size w W) => ExtQ.live_walk W (ExtQ.tabs_at ⟨hT⟩ hW))
  have cB := Lib.hid (fun W (hW : Below w.heap.size w W) => c_big p cp W (k33.K_below hW hP))
  rw [h1] at cB
  have cM1 := Lib.hid (fun W (hW : Below w.heap.size w W) => c_much a ca W (k42.K_below hW hA))
  rw [h2] at cM1
  have cM2 := Lib.hid (fun W (hW : Below w.heap.size w W) => c_much b cb W (k42.K_below hW hB))
  rw [h3] at cM2
  have e1 : lineE p a = (lineB p.f2 a, 0) := if_pos ya
  have e2 : lineE p b = (⟨#[]⟩, 270) := if_neg yb
  have cS1 := Lib.hid (fun W (hW : Below w.heap.size w W) => c_SLine p a cp ca W (k33.K_below hW hP) (k42.K_below hW hA) (planBd h1 hp) ha.bd (fun hy => say_ok (fun j => Nat.le_trans ((big_names h1).2 j) (by omega)) ha h2 hy) (Utf8Tabs_below hT hW))
  simp only [e1] at cS1
  have cS2 := Lib.hid (fun W (hW : Below w.heap.size w W) => c_SLine p b cp cb W (k33.K_below hW hP) (k42.K_below hW hB) (planBd h1 hp) hb.bd (fun hy => say_ok (fun j => Nat.le_trans ((big_names h1).2 j) (by omega)) hb h3 hy) (Utf8Tabs_below hT hW))
  simp only [e2] at cS2
  obtain ⟨A4, c4, A11, c11, A12, c12, rfl, -, -, -, -, -, -⟩ := k42_open hA
  obtain ⟨A4b, c4b, A11b, c11b, A12b, c12b, rfl, -, -, -, -, -, -⟩ := k42_open hB
  obtain ⟨B2, d2, B3, d3, rfl, -, -, -, -⟩ := k33_open hP
  clear hP hA hB hT hp ha hb h1 h2 h3 e1 e2 ya yb
  have r0 := P0.out.c 0
  have r1 := P0.out.c 1
  have r2 := P0.out.c 2
  have r3 := P0.out.c 3
  have q0 := A0.out.c 0
  have q1 := A0.out.c 1
  have q2 := A0.out.c 2
  have q3 := A0.out.c 3
  have q4 := A0.out.c 4
  have q5 := A0.out.c 5
  have q6 := A0.out.c 6
  have q7 := A0.out.c 7
  have q8 := A0.out.c 8
  have q9 := A0.out.c 9
  have q10 := A0.out.c 10
  have q11 := A0.out.c 11
  have q12 := A0.out.c 12
  have s0 := B0.out.c 0
  have s1 := B0.out.c 1
  have s2 := B0.out.c 2
  have s3 := B0.out.c 3
  have s4 := B0.out.c 4
  have s5 := B0.out.c 5
  have s6 := B0.out.c 6
  have s7 := B0.out.c 7
  have s8 := B0.out.c 8
  have s9 := B0.out.c 9
  have s10 := B0.out.c 10
  have s11 := B0.out.c 11
  have s12 := B0.out.c 12
  generalize lineB p.f2 a = La at *
  go_enter Tryd.func5, Tryd.ntmps5
  go_wp2_with fail
  refine (cL.out _ P0.out.hb).mono ?_
  rintro e v ⟨rfl, hbz⟩
  replace P0 := Aside0.mk (P0.out.next hbz)
  replace A0 := Aside0.mk (A0.out.next hbz)
  replace B0 := Aside0.mk (B0.out.next hbz)
  clear hbz r0 r1 r2 r3 q0 q1 q2 q3 q4 q5 q6 q7 q8 q9 q10 q11 q12 s0 s1 s2 s3 s4 s5 s6 s7 s8 s9 s10 s11 s12
  have r0 := P0.out.c 0
  have r1 := P0.out.c 1
  have r2 := P0.out.c 2
  have r3 := P0.out.c 3
  have q0 := A0.out.c 0
  have q1 := A0.out.c 1
  have q2 := A0.out.c 2
  have q3 := A0.out.c 3
  have q4 := A0.out.c 4
  have q5 := A0.out.c 5
  have q6 := A0.out.c 6
  have q7 := A0.out.c 7
  have q8 := A0.out.c 8
  have q9 := A0.out.c 9
  have q10 := A0.out.c 10
  have q11 := A0.out.c 11
  have q12 := A0.out.c 12
  have s0 := B0.out.c 0
  have s1 := B0.out.c 1
  have s2 := B0.out.c 2
  have s3 := B0.out.c 3
  have s4 := B0.out.c 4
  have s5 := B0.out.c 5
  have s6 := B0.out.c 6
  have s7 := B0.out.c 7
  have s8 := B0.out.c 8
  have s9 := B0.out.c 9
  have s10 := B0.out.c 10
  have s11 := B0.out.c 11
  have s12 := B0.out.c 12
  go_wp2_with fail
  refine (cB.out _ P0.out.hb).mono ?_
  rintro e v ⟨rfl, hbz⟩
  replace P0 := Aside0.mk (P0.out.next hbz)
  replace A0 := Aside0.mk (A0.out.next hbz)
  replace B0 := Aside0.mk (B0.out.next hbz)
  clear hbz r0 r1 r2 r3 q0 q1 q2 q3 q4 q5 q6 q7 q8 q9 q10 q11 q12 s0 s1 s2 s3 s4 s5 s6 s7 s8 s9 s10 s11 s12
  have r0 := P0.out.c 0
  have r1 := P0.out.c 1
  have r2 := P0.out.c 2
  have r3 := P0.out.c 3
  have q0 := A0.out.c 0
  have q1 := A0.out.c 1
  have q2 := A0.out.c 2
  have q3 := A0.out.c 3
  have q4 := A0.out.c 4
  have q5 := A0.out.c 5
  have q6 := A0.out.c 6
  have q7 := A0.out.c 7
  have q8 := A0.out.c 8
  have q9 := A0.out.c 9
  have q10 := A0.out.c 10
  have q11 := A0.out.c 11
  have q12 := A0.out.c 12
  have s0 := B0.out.c 0
  have s1 := B0.out.c 1
  have s2 := B0.out.c 2
  have s3 := B0.out.c 3
  have s4 := B0.out.c 4
  have s5 := B0.out.c 5
  have s6 := B0.out.c 6
  have s7 := B0.out.c 7
  have s8 := B0.out.c 8
  have s9 := B0.out.c 9
  have s10 := B0.out.c 10
  have s11 := B0.out.c 11
  have s12 := B0.out.c 12
  clear cB
  go_wp2_with fail
  clear cL
  refine (cM1.out _ P0.out.hb).mono ?_
  rintro e v ⟨rfl, hbz⟩
  replace P0 := Aside0.mk (P0.out.next hbz)
  replace A0 := Aside0.mk (A0.out.next hbz)
  replace B0 := Aside0.mk (B0.out.next hbz)
  clear hbz r0 r1 r2 r3 q0 q1 q2 q3 q4 q5 q6 q7 q8 q9 q10 q11 q12 s0 s1 s2 s3 s4 s5 s6 s7 s8 s9 s10 s11 s12
  have r0 := P0.out.c 0
  have r1 := P0.out.c 1
  have r2 := P0.out.c 2
  have r3 := P0.out.c 3
  have q0 := A0.out.c 0
  have q1 := A0.out.c 1
  have q2 := A0.out.c 2
  have q3 := A0.out.c 3
  have q4 := A0.out.c 4
  have q5 := A0.out.c 5
  have q6 := A0.out.c 6
  have q7 := A0.out.c 7
  have q8 := A0.out.c 8
  have q9 := A0.out.c 9
  have q10 := A0.out.c 10
  have q11 := A0.out.c 11
  have q12 := A0.out.c 12
  have s0 := B0.out.c 0
  have s1 := B0.out.c 1
  have s2 := B0.out.c 2
  have s3 := B0.out.c 3
  have s4 := B0.out.c 4
  have s5 := B0.out.c 5
  have s6 := B0.out.c 6
  have s7 := B0.out.c 7
  have s8 := B0.out.c 8
  have s9 := B0.out.c 9
  have s10 := B0.out.c 10
  have s11 := B0.out.c 11
  have s12 := B0.out.c 12
  clear cM1
  go_wp2_with fail
  refine (cM2.out _ P0.out.hb).mono ?_
  rintro e v ⟨rfl, hbz⟩
  replace P0 := Aside0.mk (P0.out.next hbz)
  replace A0 := Aside0.mk (A0.out.next hbz)
  replace B0 := Aside0.mk (B0.out.next hbz)
  clear hbz r0 r1 r2 r3 q0 q1 q2 q3 q4 q5 q6 q7 q8 q9 q10 q11 q12 s0 s1 s2 s3 s4 s5 s6 s7 s8 s9 s10 s11 s12
  have r0 := P0.out.c 0
  have r1 := P0.out.c 1
  have r2 := P0.out.c 2
  have r3 := P0.out.c 3
  have q0 := A0.out.c 0
  have q1 := A0.out.c 1
  have q2 := A0.out.c 2
  have q3 := A0.out.c 3
  have q4 := A0.out.c 4
  have q5 := A0.out.c 5
  have q6 := A0.out.c 6
  have q7 := A0.out.c 7
  have q8 := A0.out.c 8
  have q9 := A0.out.c 9
  have q10 := A0.out.c 10
  have q11 := A0.out.c 11
  have q12 := A0.out.c 12
  have s0 := B0.out.c 0
  have s1 := B0.out.c 1
  have s2 := B0.out.c 2
  have s3 := B0.out.c 3
  have s4 := B0.out.c 4
  have s5 := B0.out.c 5
  have s6 := B0.out.c 6
  have s7 := B0.out.c 7
  have s8 := B0.out.c 8
  have s9 := B0.out.c 9
  have s10 := B0.out.c 10
  have s11 := B0.out.c 11
  have s12 := B0.out.c 12
  clear cM2
  go_wp2_with fail
  refine (cS1.out _ P0.out.hb).mono ?_
  rintro e v ⟨rfl, hbz⟩
  replace P0 := Aside0.mk (P0.out.next hbz)
  replace A0 := Aside0.mk (A0.out.next hbz)
  replace B0 := Aside0.mk (B0.out.next hbz)
  clear hbz r0 r1 r2 r3 q0 q1 q2 q3 q4 q5 q6 q7 q8 q9 q10 q11 q12 s0 s1 s2 s3 s4 s5 s6 s7 s8 s9 s10 s11 s12
  have r0 := P0.out.c 0
  have r1 := P0.out.c 1
  have r2 := P0.out.c 2
  have r3 := P0.out.c 3
  have q0 := A0.out.c 0
  have q1 := A0.out.c 1
  have q2 := A0.out.c 2
  have q3 := A0.out.c 3
  have q4 := A0.out.c 4
  have q5 := A0.out.c 5
  have q6 := A0.out.c 6
  have q7 := A0.out.c 7
  have q8 := A0.out.c 8
  have q9 := A0.out.c 9
  have q10 := A0.out.c 10
  have q11 := A0.out.c 11
  have q12 := A0.out.c 12
  have s0 := B0.out.c 0
  have s1 := B0.out.c 1
  have s2 := B0.out.c 2
  have s3 := B0.out.c 3
  have s4 := B0.out.c 4
  have s5 := B0.out.c 5
  have s6 := B0.out.c 6
  have s7 := B0.out.c 7
  have s8 := B0.out.c 8
  have s9 := B0.out.c 9
  have s10 := B0.out.c 10
  have s11 := B0.out.c 11
  have s12 := B0.out.c 12
  clear cS1
  go_wp2_with fail
  refine (cS2.out _ P0.out.hb).mono ?_
  rintro e v ⟨rfl, hbz⟩
  replace P0 := Aside0.mk (P0.out.next hbz)
  replace A0 := Aside0.mk (A0.out.next hbz)
  replace B0 := Aside0.mk (B0.out.next hbz)
  clear hbz r0 r1 r2 r3 q0 q1 q2 q3 q4 q5 q6 q7 q8 q9 q10 q11 q12 s0 s1 s2 s3 s4 s5 s6 s7 s8 s9 s10 s11 s12
  have r0 := P0.out.c 0
  have r1 := P0.out.c 1
  have r2 := P0.out.c 2
  have r3 := P0.out.c 3
  have q0 := A0.out.c 0
  have q1 := A0.out.c 1
  have q2 := A0.out.c 2
  have q3 := A0.out.c 3
  have q4 := A0.out.c 4
  have q5 := A0.out.c 5
  have q6 := A0.out.c 6
  have q7 := A0.out.c 7
  have q8 := A0.out.c 8
  have q9 := A0.out.c 9
  have q10 := A0.out.c 10
  have q11 := A0.out.c 11
  have q12 := A0.out.c 12
  have s0 := B0.out.c 0
  have s1 := B0.out.c 1
  have s2 := B0.out.c 2
  have s3 := B0.out.c 3
  have s4 := B0.out.c 4
  have s5 := B0.out.c 5
  have s6 := B0.out.c 6
  have s7 := B0.out.c 7
  have s8 := B0.out.c 8
  have s9 := B0.out.c 9
  have s10 := B0.out.c 10
  have s11 := B0.out.c 11
  have s12 := B0.out.c 12
  clear cS2
  go_wp2_with fail
  go_ret
  exact ⟨rfl, P0.out.hb⟩
set_option maxHeartbeats 16000000 in
set_option maxRecDepth 100000 in
theorem one_ne (p : Plan) (a b : Act) (cp ca cb : List Value) (w : World) (hP : k33.K w p cp) (hA : k42.K w a ca) (hB : k42.K w b cb) (hp : PlanOk p) (ha : ActOk a) (hb : ActOk b) (hT : Lib.Utf8Tabs 0 1 w) (h1 : bigS p = false) (h2 : muchS a = false) (h3 : muchS b = false) (ya : headedS p.f0 p.f1 p.f2 = true ∧ mayS p.f2.length a = true) (yb : headedS p.f0 p.f1 p.f2 = true ∧ mayS p.f2.length b = true) (he : ¬ lineB p.f2 a = lineB p.f2 b) :
    Calls Tryd.prog 5 #[.agg cp.toArray, .agg ca.toArray, .agg cb.toArray] w (BoolB true w) := by
  have P0 := Aside0.mk (((Bx.new w cp 33).push (.cells ca.toArray 42)).push (.cells cb.toArray 42))
  have A0 := Aside0.mk (((Bx.new w cp 33).on ca 42 |>.at_ (show _ = w.heap.size + 1 by simp)).push (.cells cb.toArray 42))
  have B0 := Aside0.mk (((Bx.new w cp 33).push (.cells ca.toArray 42)).on cb 42 |>.at_ (show _ = w.heap.size + 1 + 1 by simp))
  have cL := Lib.hid (fun W (hW : Below w.heap.size w W) => ExtQ.live_walk W (ExtQ.tabs_at ⟨hT⟩ hW))
  have cB := Lib.hid (fun W (hW : Below w.heap.size w W) => c_big p cp W (k33.K_below hW hP))
  rw [h1] at cB
  have cM1 := Lib.hid (fun W (hW : Below w.heap.size w W) => c_much a ca W (k42.K_below hW hA))
  rw [h2] at cM1
  have cM2 := Lib.hid (fun W (hW : Below w.heap.size w W) => c_much b cb W (k42.K_below hW hB))
  rw [h3] at cM2
  have e1 : lineE p a = (lineB p.f2 a, 0) := if_pos ya
  have e2 : lineE p b = (lineB p.f2 b, 0) := if_pos yb
  have cS1 := Lib.hid (fun W (hW : Below w.heap.size w W) => c_SLine p a cp ca W (k33.K_below hW hP) (k42.K_below hW hA) (planBd h1 hp) ha.bd (fun hy => say_ok (fun j => Nat.le_trans ((big_names h1).2 j) (by omega)) ha h2 hy) (Utf8Tabs_below hT hW))
  simp only [e1] at cS1
  have cS2 := Lib.hid (fun W (hW : Below w.heap.size w W) => c_SLine p b cp cb W (k33.K_below hW hP) (k42.K_below hW hB) (planBd h1 hp) hb.bd (fun hy => say_ok (fun j => Nat.le_trans ((big_names h1).2 j) (by omega)) hb h3 hy) (Utf8Tabs_below hT hW))
  simp only [e2] at cS2
  have cA := Lib.hid (fun W (hW : Below w.heap.size w W) => by
    have key := c_Act p cp (lineB p.f2 a) W (k33.K_below hW hP) (planBd h1 hp) (line_small (say_ok (fun j => Nat.le_trans ((big_names h1).2 j) (by omega)) ha h2 ya.2) ya.2) (Utf8Tabs_below hT hW) (fun j => Nat.le_trans ((big_names h1).2 j) (by omega))
    rw [act_back ha ya.1 ya.2] at key
    exact key.mono (fun e w' h => (show (∃ ks : List Value, e = .returned (.tuple #[.agg ks.toArray, .int .i64 0]) ∧ k42.K w' a ks) ∧ Below W.heap.size W w' from h)))
  have cE1 := Lib.hid (fun W (hW : Below w.heap.size w W) ks (hK : k42.K W a ks) => r_sameAct a a ks ca W hK (k42.K_below hW hA) (data_bd ha h2) (data_bd ha h2))
  rw [sameA_self] at cE1
  have cE2 := Lib.hid (fun W (hW : Below w.heap.size w W) => r_sameAct a b ca cb W (k42.K_below hW hA) (k42.K_below hW hB) (data_bd ha h2) (data_bd hb h3))
  have hs : sameA a b = false := by
    cases hh : sameA a b with
    | false => rfl
    | true => exact absurd (congrArg (lineB p.f2) (sameA_eq hh)) he
  rw [hs] at cE2
  obtain ⟨A4, c4, A11, c11, A12, c12, rfl, -, -, -, -, -, -⟩ := k42_open hA
  obtain ⟨A4b, c4b, A11b, c11b, A12b, c12b, rfl, -, -, -, -, -, -⟩ := k42_open hB
  obtain ⟨B2, d2, B3, d3, rfl, -, -, -, -⟩ := k33_open hP
  clear hP hA hB hT hp ha hb h1 h2 h3 e1 e2 ya yb hs
  have r0 := P0.out.c 0
  have r1 := P0.out.c 1
  have r2 := P0.out.c 2
  have r3 := P0.out.c 3
  have q0 := A0.out.c 0
  have q1 := A0.out.c 1
  have q2 := A0.out.c 2
  have q3 := A0.out.c 3
  have q4 := A0.out.c 4
  have q5 := A0.out.c 5
  have q6 := A0.out.c 6
  have q7 := A0.out.c 7
  have q8 := A0.out.c 8
  have q9 := A0.out.c 9
  have q10 := A0.out.c 10
  have q11 := A0.out.c 11
  have q12 := A0.out.c 12
  have s0 := B0.out.c 0
  have s1 := B0.out.c 1
  have s2 := B0.out.c 2
  have s3 := B0.out.c 3
  have s4 := B0.out.c 4
  have s5 := B0.out.c 5
  have s6 := B0.out.c 6
  have s7 := B0.out.c 7
  have s8 := B0.out.c 8
  have s9 := B0.out.c 9
  have s10 := B0.out.c 10
  have s11 := B0.out.c 11
  have s12 := B0.out.c 12
  generalize lineB p.f2 a = La at *
  generalize lineB p.f2 b = Lb at *
  have tS : (La.toList == Lb.toList) = false := str_ne he
  go_enter Tryd.func5, Tryd.ntmps5
  go_wp2_with fail
  refine (cL.out _ P0.out.hb).mono ?_
  rintro e v ⟨rfl, hbz⟩
  replace P0 := Aside0.mk (P0.out.next hbz)
  replace A0 := Aside0.mk (A0.out.next hbz)
  replace B0 := Aside0.mk (B0.out.next hbz)
  clear hbz r0 r1 r2 r3 q0 q1 q2 q3 q4 q5 q6 q7 q8 q9 q10 q11 q12 s0 s1 s2 s3 s4 s5 s6 s7 s8 s9 s10 s11 s12
  have r0 := P0.out.c 0
  have r1 := P0.out.c 1
  have r2 := P0.out.c 2
  have r3 := P0.out.c 3
  have q0 := A0.out.c 0
  have q1 := A0.out.c 1
  have q2 := A0.out.c 2
  have q3 := A0.out.c 3
  have q4 := A0.out.c 4
  have q5 := A0.out.c 5
  have q6 := A0.out.c 6
  have q7 := A0.out.c 7
  have q8 := A0.out.c 8
  have q9 := A0.out.c 9
  have q10 := A0.out.c 10
  have q11 := A0.out.c 11
  have q12 := A0.out.c 12
  have s0 := B0.out.c 0
  have s1 := B0.out.c 1
  have s2 := B0.out.c 2
  have s3 := B0.out.c 3
  have s4 := B0.out.c 4
  have s5 := B0.out.c 5
  have s6 := B0.out.c 6
  have s7 := B0.out.c 7
  have s8 := B0.out.c 8
  have s9 := B0.out.c 9
  have s10 := B0.out.c 10
  have s11 := B0.out.c 11
  have s12 := B0.out.c 12
  go_wp2_with fail
  refine (cB.out _ P0.out.hb).mono ?_
  rintro e v ⟨rfl, hbz⟩
  replace P0 := Aside0.mk (P0.out.next hbz)
  replace A0 := Aside0.mk (A0.out.next hbz)
  replace B0 := Aside0.mk (B0.out.next hbz)
  clear hbz r0 r1 r2 r3 q0 q1 q2 q3 q4 q5 q6 q7 q8 q9 q10 q11 q12 s0 s1 s2 s3 s4 s5 s6 s7 s8 s9 s10 s11 s12
  have r0 := P0.out.c 0
  have r1 := P0.out.c 1
  have r2 := P0.out.c 2
  have r3 := P0.out.c 3
  have q0 := A0.out.c 0
  have q1 := A0.out.c 1
  have q2 := A0.out.c 2
  have q3 := A0.out.c 3
  have q4 := A0.out.c 4
  have q5 := A0.out.c 5
  have q6 := A0.out.c 6
  have q7 := A0.out.c 7
  have q8 := A0.out.c 8
  have q9 := A0.out.c 9
  have q10 := A0.out.c 10
  have q11 := A0.out.c 11
  have q12 := A0.out.c 12
  have s0 := B0.out.c 0
  have s1 := B0.out.c 1
  have s2 := B0.out.c 2
  have s3 := B0.out.c 3
  have s4 := B0.out.c 4
  have s5 := B0.out.c 5
  have s6 := B0.out.c 6
  have s7 := B0.out.c 7
  have s8 := B0.out.c 8
  have s9 := B0.out.c 9
  have s10 := B0.out.c 10
  have s11 := B0.out.c 11
  have s12 := B0.out.c 12
  clear cB
  go_wp2_with fail
  clear cL
  refine (cM1.out _ P0.out.hb).mono ?_
  rintro e v ⟨rfl, hbz⟩
  replace P0 := Aside0.mk (P0.out.next hbz)
  replace A0 := Aside0.mk (A0.out.next hbz)
  replace B0 := Aside0.mk (B0.out.next hbz)
  clear hbz r0 r1 r2 r3 q0 q1 q2 q3 q4 q5 q6 q7 q8 q9 q10 q11 q12 s0 s1 s2 s3 s4 s5 s6 s7 s8 s9 s10 s11 s12
  have r0 := P0.out.c 0
  have r1 := P0.out.c 1
  have r2 := P0.out.c 2
  have r3 := P0.out.c 3
  have q0 := A0.out.c 0
  have q1 := A0.out.c 1
  have q2 := A0.out.c 2
  have q3 := A0.out.c 3
  have q4 := A0.out.c 4
  have q5 := A0.out.c 5
  have q6 := A0.out.c 6
  have q7 := A0.out.c 7
  have q8 := A0.out.c 8
  have q9 := A0.out.c 9
  have q10 := A0.out.c 10
  have q11 := A0.out.c 11
  have q12 := A0.out.c 12
  have s0 := B0.out.c 0
  have s1 := B0.out.c 1
  have s2 := B0.out.c 2
  have s3 := B0.out.c 3
  have s4 := B0.out.c 4
  have s5 := B0.out.c 5
  have s6 := B0.out.c 6
  have s7 := B0.out.c 7
  have s8 := B0.out.c 8
  have s9 := B0.out.c 9
  have s10 := B0.out.c 10
  have s11 := B0.out.c 11
  have s12 := B0.out.c 12
  clear cM1
  go_wp2_with fail
  refine (cM2.out _ P0.out.hb).mono ?_
  rintro e v ⟨rfl, hbz⟩
  replace P0 := Aside0.mk (P0.out.next hbz)
  replace A0 := Aside0.mk (A0.out.next hbz)
  replace B0 := Aside0.mk (B0.out.next hbz)
  clear hbz r0 r1 r2 r3 q0 q1 q2 q3 q4 q5 q6 q7 q8 q9 q10 q11 q12 s0 s1 s2 s3 s4 s5 s6 s7 s8 s9 s10 s11 s12
  have r0 := P0.out.c 0
  have r1 := P0.out.c 1
  have r2 := P0.out.c 2
  have r3 := P0.out.c 3
  have q0 := A0.out.c 0
  have q1 := A0.out.c 1
  have q2 := A0.out.c 2
  have q3 := A0.out.c 3
  have q4 := A0.out.c 4
  have q5 := A0.out.c 5
  have q6 := A0.out.c 6
  have q7 := A0.out.c 7
  have q8 := A0.out.c 8
  have q9 := A0.out.c 9
  have q10 := A0.out.c 10
  have q11 := A0.out.c 11
  have q12 := A0.out.c 12
  have s0 := B0.out.c 0
  have s1 := B0.out.c 1
  have s2 := B0.out.c 2
  have s3 := B0.out.c 3
  have s4 := B0.out.c 4
  have s5 := B0.out.c 5
  have s6 := B0.out.c 6
  have s7 := B0.out.c 7
  have s8 := B0.out.c 8
  have s9 := B0.out.c 9
  have s10 := B0.out.c 10
  have s11 := B0.out.c 11
  have s12 := B0.out.c 12
  clear cM2
  go_wp2_with fail
  refine (cS1.out _ P0.out.hb).mono ?_
  rintro e v ⟨rfl, hbz⟩
  replace P0 := Aside0.mk (P0.out.next hbz)
  replace A0 := Aside0.mk (A0.out.next hbz)
  replace B0 := Aside0.mk (B0.out.next hbz)
  clear hbz r0 r1 r2 r3 q0 q1 q2 q3 q4 q5 q6 q7 q8 q9 q10 q11 q12 s0 s1 s2 s3 s4 s5 s6 s7 s8 s9 s10 s11 s12
  have r0 := P0.out.c 0
  have r1 := P0.out.c 1
  have r2 := P0.out.c 2
  have r3 := P0.out.c 3
  have q0 := A0.out.c 0
  have q1 := A0.out.c 1
  have q2 := A0.out.c 2
  have q3 := A0.out.c 3
  have q4 := A0.out.c 4
  have q5 := A0.out.c 5
  have q6 := A0.out.c 6
  have q7 := A0.out.c 7
  have q8 := A0.out.c 8
  have q9 := A0.out.c 9
  have q10 := A0.out.c 10
  have q11 := A0.out.c 11
  have q12 := A0.out.c 12
  have s0 := B0.out.c 0
  have s1 := B0.out.c 1
  have s2 := B0.out.c 2
  have s3 := B0.out.c 3
  have s4 := B0.out.c 4
  have s5 := B0.out.c 5
  have s6 := B0.out.c 6
  have s7 := B0.out.c 7
  have s8 := B0.out.c 8
  have s9 := B0.out.c 9
  have s10 := B0.out.c 10
  have s11 := B0.out.c 11
  have s12 := B0.out.c 12
  clear cS1
  go_wp2_with fail
  refine (cS2.out _ P0.out.hb).mono ?_
  rintro e v ⟨rfl, hbz⟩
  replace P0 := Aside0.mk (P0.out.next hbz)
  replace A0 := Aside0.mk (A0.out.next hbz)
  replace B0 := Aside0.mk (B0.out.next hbz)
  clear hbz r0 r1 r2 r3 q0 q1 q2 q3 q4 q5 q6 q7 q8 q9 q10 q11 q12 s0 s1 s2 s3 s4 s5 s6 s7 s8 s9 s10 s11 s12
  have r0 := P0.out.c 0
  have r1 := P0.out.c 1
  have r2 := P0.out.c 2
  have r3 := P0.out.c 3
  have q0 := A0.out.c 0
  have q1 := A0.out.c 1
  have q2 := A0.out.c 2
  have q3 := A0.out.c 3
  have q4 := A0.out.c 4
  have q5 := A0.out.c 5
  have q6 := A0.out.c 6
  have q7 := A0.out.c 7
  have q8 := A0.out.c 8
  have q9 := A0.out.c 9
  have q10 := A0.out.c 10
  have q11 := A0.out.c 11
  have q12 := A0.out.c 12
  have s0 := B0.out.c 0
  have s1 := B0.out.c 1
  have s2 := B0.out.c 2
  have s3 := B0.out.c 3
  have s4 := B0.out.c 4
  have s5 := B0.out.c 5
  have s6 := B0.out.c 6
  have s7 := B0.out.c 7
  have s8 := B0.out.c 8
  have s9 := B0.out.c 9
  have s10 := B0.out.c 10
  have s11 := B0.out.c 11
  have s12 := B0.out.c 12
  clear cS2
  go_wp2_with fail
  refine (cA.out _ P0.out.hb).mono ?_
  rintro e v ⟨⟨ks, rfl, hk⟩, hbz⟩
  replace P0 := Aside0.mk (P0.out.next hbz)
  replace A0 := Aside0.mk (A0.out.next hbz)
  replace B0 := Aside0.mk (B0.out.next hbz)
  have HK := Aside0.mk (k42.K_below (ExtQ.cellsBelow v (.cells ks.toArray 42)) hk)
  obtain ⟨A4k, c4k, A11k, c11k, A12k, c12k, rfl, -, -, -, -, -, -⟩ := k42_open hk
  have C0 := Aside0.mk (heap_alloc_new v (.cells #[.int .i64 a.f0, .int .i64 a.f1, .int .i64 a.f2, .int .i64 a.f3, .slice A4k a.f4.length c4k, .int .u32 a.f5, .int .u32 a.f6, .int .u32 a.f7, .int .u64 a.f8.f0, .int .u64 a.f8.f1, .int .i64 a.f9, .slice A11k a.f10.length c11k, .slice A12k a.f11.length c12k] 42))
  replace P0 := Aside0.mk (P0.out.push (.cells #[.int .i64 a.f0, .int .i64 a.f1, .int .i64 a.f2, .int .i64 a.f3, .slice A4k a.f4.length c4k, .int .u32 a.f5, .int .u32 a.f6, .int .u32 a.f7, .int .u64 a.f8.f0, .int .u64 a.f8.f1, .int .i64 a.f9, .slice A11k a.f10.length c11k, .slice A12k a.f11.length c12k] 42))
  replace A0 := Aside0.mk (A0.out.push (.cells #[.int .i64 a.f0, .int .i64 a.f1, .int .i64 a.f2, .int .i64 a.f3, .slice A4k a.f4.length c4k, .int .u32 a.f5, .int .u32 a.f6, .int .u32 a.f7, .int .u64 a.f8.f0, .int .u64 a.f8.f1, .int .i64 a.f9, .slice A11k a.f10.length c11k, .slice A12k a.f11.length c12k] 42))
  replace B0 := Aside0.mk (B0.out.push (.cells #[.int .i64 a.f0, .int .i64 a.f1, .int .i64 a.f2, .int .i64 a.f3, .slice A4k a.f4.length c4k, .int .u32 a.f5, .int .u32 a.f6, .int .u32 a.f7, .int .u64 a.f8.f0, .int .u64 a.f8.f1, .int .i64 a.f9, .slice A11k a.f10.length c11k, .slice A12k a.f11.length c12k] 42))
  have has := fun W => ExtQ.act_store W #[.int .i64 0, .int .i64 0, .int .i64 0, .int .i64 0, .slice none 0 0, .int .u32 0, .int .u32 0, .int .u32 0, .int .u64 0, .int .u64 0, .int .i64 0, .slice none 0 0, .slice none 0 0] #[.int .i64 a.f0, .int .i64 a.f1, .int .i64 a.f2, .int .i64 a.f3, .slice A4k a.f4.length c4k, .int .u32 a.f5, .int .u32 a.f6, .int .u32 a.f7, .int .u64 a.f8.f0, .int .u64 a.f8.f1, .int .i64 a.f9, .slice A11k a.f10.length c11k, .slice A12k a.f11.length c12k] rfl rfl (by simp [Value.oneCell'])
  clear hbz hk cA r0 r1 r2 r3 q0 q1 q2 q3 q4 q5 q6 q7 q8 q9 q10 q11 q12 s0 s1 s2 s3 s4 s5 s6 s7 s8 s9 s10 s11 s12
  have r0 := P0.out.c 0
  have r1 := P0.out.c 1
  have r2 := P0.out.c 2
  have r3 := P0.out.c 3
  have q0 := A0.out.c 0
  have q1 := A0.out.c 1
  have q2 := A0.out.c 2
  have q3 := A0.out.c 3
  have q4 := A0.out.c 4
  have q5 := A0.out.c 5
  have q6 := A0.out.c 6
  have q7 := A0.out.c 7
  have q8 := A0.out.c 8
  have q9 := A0.out.c 9
  have q10 := A0.out.c 10
  have q11 := A0.out.c 11
  have q12 := A0.out.c 12
  have s0 := B0.out.c 0
  have s1 := B0.out.c 1
  have s2 := B0.out.c 2
  have s3 := B0.out.c 3
  have s4 := B0.out.c 4
  have s5 := B0.out.c 5
  have s6 := B0.out.c 6
  have s7 := B0.out.c 7
  have s8 := B0.out.c 8
  have s9 := B0.out.c 9
  have s10 := B0.out.c 10
  have s11 := B0.out.c 11
  have s12 := B0.out.c 12
  have u0 := blk_cell C0.out 0
  have u1 := blk_cell C0.out 1
  have u2 := blk_cell C0.out 2
  have u3 := blk_cell C0.out 3
  have u4 := blk_cell C0.out 4
  have u5 := blk_cell C0.out 5
  have u6 := blk_cell C0.out 6
  have u7 := blk_cell C0.out 7
  have u8 := blk_cell C0.out 8
  have u9 := blk_cell C0.out 9
  have u10 := blk_cell C0.out 10
  have u11 := blk_cell C0.out 11
  have u12 := blk_cell C0.out 12
  go_wp2_with fail
  refine (cE1.out _ P0.out.hb _ HK.out).mono ?_
  rintro e v ⟨rfl, hbz⟩
  replace P0 := Aside0.mk (P0.out.next hbz)
  replace A0 := Aside0.mk (A0.out.next hbz)
  replace B0 := Aside0.mk (B0.out.next hbz)
  clear hbz r0 r1 r2 r3 q0 q1 q2 q3 q4 q5 q6 q7 q8 q9 q10 q11 q12 s0 s1 s2 s3 s4 s5 s6 s7 s8 s9 s10 s11 s12
  have r0 := P0.out.c 0
  have r1 := P0.out.c 1
  have r2 := P0.out.c 2
  have r3 := P0.out.c 3
  have q0 := A0.out.c 0
  have q1 := A0.out.c 1
  have q2 := A0.out.c 2
  have q3 := A0.out.c 3
  have q4 := A0.out.c 4
  have q5 := A0.out.c 5
  have q6 := A0.out.c 6
  have q7 := A0.out.c 7
  have q8 := A0.out.c 8
  have q9 := A0.out.c 9
  have q10 := A0.out.c 10
  have q11 := A0.out.c 11
  have q12 := A0.out.c 12
  have s0 := B0.out.c 0
  have s1 := B0.out.c 1
  have s2 := B0.out.c 2
  have s3 := B0.out.c 3
  have s4 := B0.out.c 4
  have s5 := B0.out.c 5
  have s6 := B0.out.c 6
  have s7 := B0.out.c 7
  have s8 := B0.out.c 8
  have s9 := B0.out.c 9
  have s10 := B0.out.c 10
  have s11 := B0.out.c 11
  have s12 := B0.out.c 12
  clear cE1 HK C0 has
  go_wp2_with fail
  refine (cE2.out _ P0.out.hb).mono ?_
  rintro e v ⟨rfl, hbz⟩
  replace P0 := Aside0.mk (P0.out.next hbz)
  replace A0 := Aside0.mk (A0.out.next hbz)
  replace B0 := Aside0.mk (B0.out.next hbz)
  clear hbz r0 r1 r2 r3 q0 q1 q2 q3 q4 q5 q6 q7 q8 q9 q10 q11 q12 s0 s1 s2 s3 s4 s5 s6 s7 s8 s9 s10 s11 s12
  have r0 := P0.out.c 0
  have r1 := P0.out.c 1
  have r2 := P0.out.c 2
  have r3 := P0.out.c 3
  have q0 := A0.out.c 0
  have q1 := A0.out.c 1
  have q2 := A0.out.c 2
  have q3 := A0.out.c 3
  have q4 := A0.out.c 4
  have q5 := A0.out.c 5
  have q6 := A0.out.c 6
  have q7 := A0.out.c 7
  have q8 := A0.out.c 8
  have q9 := A0.out.c 9
  have q10 := A0.out.c 10
  have q11 := A0.out.c 11
  have q12 := A0.out.c 12
  have s0 := B0.out.c 0
  have s1 := B0.out.c 1
  have s2 := B0.out.c 2
  have s3 := B0.out.c 3
  have s4 := B0.out.c 4
  have s5 := B0.out.c 5
  have s6 := B0.out.c 6
  have s7 := B0.out.c 7
  have s8 := B0.out.c 8
  have s9 := B0.out.c 9
  have s10 := B0.out.c 10
  have s11 := B0.out.c 11
  have s12 := B0.out.c 12
  clear cE2
  go_wp2_with fail
  go_ret
  exact ⟨rfl, P0.out.hb⟩
set_option maxHeartbeats 16000000 in
set_option maxRecDepth 100000 in
theorem one_eq (p : Plan) (a b : Act) (cp ca cb : List Value) (w : World) (hP : k33.K w p cp) (hA : k42.K w a ca) (hB : k42.K w b cb) (hp : PlanOk p) (ha : ActOk a) (hb : ActOk b) (hT : Lib.Utf8Tabs 0 1 w) (h1 : bigS p = false) (h2 : muchS a = false) (h3 : muchS b = false) (ya : headedS p.f0 p.f1 p.f2 = true ∧ mayS p.f2.length a = true) (yb : headedS p.f0 p.f1 p.f2 = true ∧ mayS p.f2.length b = true) (he : sameA a b = true) (hl : lineB p.f2 b = lineB p.f2 a) :
    Calls Tryd.prog 5 #[.agg cp.toArray, .agg ca.toArray, .agg cb.toArray] w (BoolB true w) := by
  have P0 := Aside0.mk (((Bx.new w cp 33).push (.cells ca.toArray 42)).push (.cells cb.toArray 42))
  have A0 := Aside0.mk (((Bx.new w cp 33).on ca 42 |>.at_ (show _ = w.heap.size + 1 by simp)).push (.cells cb.toArray 42))
  have B0 := Aside0.mk (((Bx.new w cp 33).push (.cells ca.toArray 42)).on cb 42 |>.at_ (show _ = w.heap.size + 1 + 1 by simp))
  have cL := Lib.hid (fun W (hW : Below w.heap.size w W) => ExtQ.live_walk W (ExtQ.tabs_at ⟨hT⟩ hW))
  have cB := Lib.hid (fun W (hW : Below w.heap.size w W) => c_big p cp W (k33.K_below hW hP))
  rw [h1] at cB
  have cM1 := Lib.hid (fun W (hW : Below w.heap.size w W) => c_much a ca W (k42.K_below hW hA))
  rw [h2] at cM1
  have cM2 := Lib.hid (fun W (hW : Below w.heap.size w W) => c_much b cb W (k42.K_below hW hB))
  rw [h3] at cM2
  have e1 : lineE p a = (lineB p.f2 a, 0) := if_pos ya
  have e2 : lineE p b = (lineB p.f2 b, 0) := if_pos yb
  rw [hl] at e2
  have cS1 := Lib.hid (fun W (hW : Below w.heap.size w W) => c_SLine p a cp ca W (k33.K_below hW hP) (k42.K_below hW hA) (planBd h1 hp) ha.bd (fun hy => say_ok (fun j => Nat.le_trans ((big_names h1).2 j) (by omega)) ha h2 hy) (Utf8Tabs_below hT hW))
  simp only [e1] at cS1
  have cS2 := Lib.hid (fun W (hW : Below w.heap.size w W) => c_SLine p b cp cb W (k33.K_below hW hP) (k42.K_below hW hB) (planBd h1 hp) hb.bd (fun hy => say_ok (fun j => Nat.le_trans ((big_names h1).2 j) (by omega)) hb h3 hy) (Utf8Tabs_below hT hW))
  simp only [e2] at cS2
  have cA := Lib.hid (fun W (hW : Below w.heap.size w W) => by
    have key := c_Act p cp (lineB p.f2 a) W (k33.K_below hW hP) (planBd h1 hp) (line_small (say_ok (fun j => Nat.le_trans ((big_names h1).2 j) (by omega)) ha h2 ya.2) ya.2) (Utf8Tabs_below hT hW) (fun j => Nat.le_trans ((big_names h1).2 j) (by omega))
    rw [act_back ha ya.1 ya.2] at key
    exact key.mono (fun e w' h => (show (∃ ks : List Value, e = .returned (.tuple #[.agg ks.toArray, .int .i64 0]) ∧ k42.K w' a ks) ∧ Below W.heap.size W w' from h)))
  have cE1 := Lib.hid (fun W (hW : Below w.heap.size w W) ks (hK : k42.K W a ks) => r_sameAct a a ks ca W hK (k42.K_below hW hA) (data_bd ha h2) (data_bd ha h2))
  rw [sameA_self] at cE1
  have cE2 := Lib.hid (fun W (hW : Below w.heap.size w W) => r_sameAct a b ca cb W (k42.K_below hW hA) (k42.K_below hW hB) (data_bd ha h2) (data_bd hb h3))
  rw [he] at cE2
  obtain ⟨A4, c4, A11, c11, A12, c12, rfl, -, -, -, -, -, -⟩ := k42_open hA
  obtain ⟨A4b, c4b, A11b, c11b, A12b, c12b, rfl, -, -, -, -, -, -⟩ := k42_open hB
  obtain ⟨B2, d2, B3, d3, rfl, -, -, -, -⟩ := k33_open hP
  clear hP hA hB hT hp ha hb h1 h2 h3 e1 e2 ya yb he hl
  have r0 := P0.out.c 0
  have r1 := P0.out.c 1
  have r2 := P0.out.c 2
  have r3 := P0.out.c 3
  have q0 := A0.out.c 0
  have q1 := A0.out.c 1
  have q2 := A0.out.c 2
  have q3 := A0.out.c 3
  have q4 := A0.out.c 4
  have q5 := A0.out.c 5
  have q6 := A0.out.c 6
  have q7 := A0.out.c 7
  have q8 := A0.out.c 8
  have q9 := A0.out.c 9
  have q10 := A0.out.c 10
  have q11 := A0.out.c 11
  have q12 := A0.out.c 12
  have s0 := B0.out.c 0
  have s1 := B0.out.c 1
  have s2 := B0.out.c 2
  have s3 := B0.out.c 3
  have s4 := B0.out.c 4
  have s5 := B0.out.c 5
  have s6 := B0.out.c 6
  have s7 := B0.out.c 7
  have s8 := B0.out.c 8
  have s9 := B0.out.c 9
  have s10 := B0.out.c 10
  have s11 := B0.out.c 11
  have s12 := B0.out.c 12
  generalize lineB p.f2 a = La at *
  have tS : (La.toList == La.toList) = true := beq_self_eq_true _
  go_enter Tryd.func5, Tryd.ntmps5
  go_wp2_with fail
  refine (cL.out _ P0.out.hb).mono ?_
  rintro e v ⟨rfl, hbz⟩
  replace P0 := Aside0.mk (P0.out.next hbz)
  replace A0 := Aside0.mk (A0.out.next hbz)
  replace B0 := Aside0.mk (B0.out.next hbz)
  clear hbz r0 r1 r2 r3 q0 q1 q2 q3 q4 q5 q6 q7 q8 q9 q10 q11 q12 s0 s1 s2 s3 s4 s5 s6 s7 s8 s9 s10 s11 s12
  have r0 := P0.out.c 0
  have r1 := P0.out.c 1
  have r2 := P0.out.c 2
  have r3 := P0.out.c 3
  have q0 := A0.out.c 0
  have q1 := A0.out.c 1
  have q2 := A0.out.c 2
  have q3 := A0.out.c 3
  have q4 := A0.out.c 4
  have q5 := A0.out.c 5
  have q6 := A0.out.c 6
  have q7 := A0.out.c 7
  have q8 := A0.out.c 8
  have q9 := A0.out.c 9
  have q10 := A0.out.c 10
  have q11 := A0.out.c 11
  have q12 := A0.out.c 12
  have s0 := B0.out.c 0
  have s1 := B0.out.c 1
  have s2 := B0.out.c 2
  have s3 := B0.out.c 3
  have s4 := B0.out.c 4
  have s5 := B0.out.c 5
  have s6 := B0.out.c 6
  have s7 := B0.out.c 7
  have s8 := B0.out.c 8
  have s9 := B0.out.c 9
  have s10 := B0.out.c 10
  have s11 := B0.out.c 11
  have s12 := B0.out.c 12
  go_wp2_with fail
  refine (cB.out _ P0.out.hb).mono ?_
  rintro e v ⟨rfl, hbz⟩
  replace P0 := Aside0.mk (P0.out.next hbz)
  replace A0 := Aside0.mk (A0.out.next hbz)
  replace B0 := Aside0.mk (B0.out.next hbz)
  clear hbz r0 r1 r2 r3 q0 q1 q2 q3 q4 q5 q6 q7 q8 q9 q10 q11 q12 s0 s1 s2 s3 s4 s5 s6 s7 s8 s9 s10 s11 s12
  have r0 := P0.out.c 0
  have r1 := P0.out.c 1
  have r2 := P0.out.c 2
  have r3 := P0.out.c 3
  have q0 := A0.out.c 0
  have q1 := A0.out.c 1
  have q2 := A0.out.c 2
  have q3 := A0.out.c 3
  have q4 := A0.out.c 4
  have q5 := A0.out.c 5
  have q6 := A0.out.c 6
  have q7 := A0.out.c 7
  have q8 := A0.out.c 8
  have q9 := A0.out.c 9
  have q10 := A0.out.c 10
  have q11 := A0.out.c 11
  have q12 := A0.out.c 12
  have s0 := B0.out.c 0
  have s1 := B0.out.c 1
  have s2 := B0.out.c 2
  have s3 := B0.out.c 3
  have s4 := B0.out.c 4
  have s5 := B0.out.c 5
  have s6 := B0.out.c 6
  have s7 := B0.out.c 7
  have s8 := B0.out.c 8
  have s9 := B0.out.c 9
  have s10 := B0.out.c 10
  have s11 := B0.out.c 11
  have s12 := B0.out.c 12
  clear cB
  go_wp2_with fail
  clear cL
  refine (cM1.out _ P0.out.hb).mono ?_
  rintro e v ⟨rfl, hbz⟩
  replace P0 := Aside0.mk (P0.out.next hbz)
  replace A0 := Aside0.mk (A0.out.next hbz)
  replace B0 := Aside0.mk (B0.out.next hbz)
  clear hbz r0 r1 r2 r3 q0 q1 q2 q3 q4 q5 q6 q7 q8 q9 q10 q11 q12 s0 s1 s2 s3 s4 s5 s6 s7 s8 s9 s10 s11 s12
  have r0 := P0.out.c 0
  have r1 := P0.out.c 1
  have r2 := P0.out.c 2
  have r3 := P0.out.c 3
  have q0 := A0.out.c 0
  have q1 := A0.out.c 1
  have q2 := A0.out.c 2
  have q3 := A0.out.c 3
  have q4 := A0.out.c 4
  have q5 := A0.out.c 5
  have q6 := A0.out.c 6
  have q7 := A0.out.c 7
  have q8 := A0.out.c 8
  have q9 := A0.out.c 9
  have q10 := A0.out.c 10
  have q11 := A0.out.c 11
  have q12 := A0.out.c 12
  have s0 := B0.out.c 0
  have s1 := B0.out.c 1
  have s2 := B0.out.c 2
  have s3 := B0.out.c 3
  have s4 := B0.out.c 4
  have s5 := B0.out.c 5
  have s6 := B0.out.c 6
  have s7 := B0.out.c 7
  have s8 := B0.out.c 8
  have s9 := B0.out.c 9
  have s10 := B0.out.c 10
  have s11 := B0.out.c 11
  have s12 := B0.out.c 12
  clear cM1
  go_wp2_with fail
  refine (cM2.out _ P0.out.hb).mono ?_
  rintro e v ⟨rfl, hbz⟩
  replace P0 := Aside0.mk (P0.out.next hbz)
  replace A0 := Aside0.mk (A0.out.next hbz)
  replace B0 := Aside0.mk (B0.out.next hbz)
  clear hbz r0 r1 r2 r3 q0 q1 q2 q3 q4 q5 q6 q7 q8 q9 q10 q11 q12 s0 s1 s2 s3 s4 s5 s6 s7 s8 s9 s10 s11 s12
  have r0 := P0.out.c 0
  have r1 := P0.out.c 1
  have r2 := P0.out.c 2
  have r3 := P0.out.c 3
  have q0 := A0.out.c 0
  have q1 := A0.out.c 1
  have q2 := A0.out.c 2
  have q3 := A0.out.c 3
  have q4 := A0.out.c 4
  have q5 := A0.out.c 5
  have q6 := A0.out.c 6
  have q7 := A0.out.c 7
  have q8 := A0.out.c 8
  have q9 := A0.out.c 9
  have q10 := A0.out.c 10
  have q11 := A0.out.c 11
  have q12 := A0.out.c 12
  have s0 := B0.out.c 0
  have s1 := B0.out.c 1
  have s2 := B0.out.c 2
  have s3 := B0.out.c 3
  have s4 := B0.out.c 4
  have s5 := B0.out.c 5
  have s6 := B0.out.c 6
  have s7 := B0.out.c 7
  have s8 := B0.out.c 8
  have s9 := B0.out.c 9
  have s10 := B0.out.c 10
  have s11 := B0.out.c 11
  have s12 := B0.out.c 12
  clear cM2
  go_wp2_with fail
  refine (cS1.out _ P0.out.hb).mono ?_
  rintro e v ⟨rfl, hbz⟩
  replace P0 := Aside0.mk (P0.out.next hbz)
  replace A0 := Aside0.mk (A0.out.next hbz)
  replace B0 := Aside0.mk (B0.out.next hbz)
  clear hbz r0 r1 r2 r3 q0 q1 q2 q3 q4 q5 q6 q7 q8 q9 q10 q11 q12 s0 s1 s2 s3 s4 s5 s6 s7 s8 s9 s10 s11 s12
  have r0 := P0.out.c 0
  have r1 := P0.out.c 1
  have r2 := P0.out.c 2
  have r3 := P0.out.c 3
  have q0 := A0.out.c 0
  have q1 := A0.out.c 1
  have q2 := A0.out.c 2
  have q3 := A0.out.c 3
  have q4 := A0.out.c 4
  have q5 := A0.out.c 5
  have q6 := A0.out.c 6
  have q7 := A0.out.c 7
  have q8 := A0.out.c 8
  have q9 := A0.out.c 9
  have q10 := A0.out.c 10
  have q11 := A0.out.c 11
  have q12 := A0.out.c 12
  have s0 := B0.out.c 0
  have s1 := B0.out.c 1
  have s2 := B0.out.c 2
  have s3 := B0.out.c 3
  have s4 := B0.out.c 4
  have s5 := B0.out.c 5
  have s6 := B0.out.c 6
  have s7 := B0.out.c 7
  have s8 := B0.out.c 8
  have s9 := B0.out.c 9
  have s10 := B0.out.c 10
  have s11 := B0.out.c 11
  have s12 := B0.out.c 12
  clear cS1
  go_wp2_with fail
  refine (cS2.out _ P0.out.hb).mono ?_
  rintro e v ⟨rfl, hbz⟩
  replace P0 := Aside0.mk (P0.out.next hbz)
  replace A0 := Aside0.mk (A0.out.next hbz)
  replace B0 := Aside0.mk (B0.out.next hbz)
  clear hbz r0 r1 r2 r3 q0 q1 q2 q3 q4 q5 q6 q7 q8 q9 q10 q11 q12 s0 s1 s2 s3 s4 s5 s6 s7 s8 s9 s10 s11 s12
  have r0 := P0.out.c 0
  have r1 := P0.out.c 1
  have r2 := P0.out.c 2
  have r3 := P0.out.c 3
  have q0 := A0.out.c 0
  have q1 := A0.out.c 1
  have q2 := A0.out.c 2
  have q3 := A0.out.c 3
  have q4 := A0.out.c 4
  have q5 := A0.out.c 5
  have q6 := A0.out.c 6
  have q7 := A0.out.c 7
  have q8 := A0.out.c 8
  have q9 := A0.out.c 9
  have q10 := A0.out.c 10
  have q11 := A0.out.c 11
  have q12 := A0.out.c 12
  have s0 := B0.out.c 0
  have s1 := B0.out.c 1
  have s2 := B0.out.c 2
  have s3 := B0.out.c 3
  have s4 := B0.out.c 4
  have s5 := B0.out.c 5
  have s6 := B0.out.c 6
  have s7 := B0.out.c 7
  have s8 := B0.out.c 8
  have s9 := B0.out.c 9
  have s10 := B0.out.c 10
  have s11 := B0.out.c 11
  have s12 := B0.out.c 12
  clear cS2
  go_wp2_with fail
  refine (cA.out _ P0.out.hb).mono ?_
  rintro e v ⟨⟨ks, rfl, hk⟩, hbz⟩
  replace P0 := Aside0.mk (P0.out.next hbz)
  replace A0 := Aside0.mk (A0.out.next hbz)
  replace B0 := Aside0.mk (B0.out.next hbz)
  have HK := Aside0.mk (k42.K_below (ExtQ.cellsBelow v (.cells ks.toArray 42)) hk)
  obtain ⟨A4k, c4k, A11k, c11k, A12k, c12k, rfl, -, -, -, -, -, -⟩ := k42_open hk
  have C0 := Aside0.mk (heap_alloc_new v (.cells #[.int .i64 a.f0, .int .i64 a.f1, .int .i64 a.f2, .int .i64 a.f3, .slice A4k a.f4.length c4k, .int .u32 a.f5, .int .u32 a.f6, .int .u32 a.f7, .int .u64 a.f8.f0, .int .u64 a.f8.f1, .int .i64 a.f9, .slice A11k a.f10.length c11k, .slice A12k a.f11.length c12k] 42))
  replace P0 := Aside0.mk (P0.out.push (.cells #[.int .i64 a.f0, .int .i64 a.f1, .int .i64 a.f2, .int .i64 a.f3, .slice A4k a.f4.length c4k, .int .u32 a.f5, .int .u32 a.f6, .int .u32 a.f7, .int .u64 a.f8.f0, .int .u64 a.f8.f1, .int .i64 a.f9, .slice A11k a.f10.length c11k, .slice A12k a.f11.length c12k] 42))
  replace A0 := Aside0.mk (A0.out.push (.cells #[.int .i64 a.f0, .int .i64 a.f1, .int .i64 a.f2, .int .i64 a.f3, .slice A4k a.f4.length c4k, .int .u32 a.f5, .int .u32 a.f6, .int .u32 a.f7, .int .u64 a.f8.f0, .int .u64 a.f8.f1, .int .i64 a.f9, .slice A11k a.f10.length c11k, .slice A12k a.f11.length c12k] 42))
  replace B0 := Aside0.mk (B0.out.push (.cells #[.int .i64 a.f0, .int .i64 a.f1, .int .i64 a.f2, .int .i64 a.f3, .slice A4k a.f4.length c4k, .int .u32 a.f5, .int .u32 a.f6, .int .u32 a.f7, .int .u64 a.f8.f0, .int .u64 a.f8.f1, .int .i64 a.f9, .slice A11k a.f10.length c11k, .slice A12k a.f11.length c12k] 42))
  have has := fun W => ExtQ.act_store W #[.int .i64 0, .int .i64 0, .int .i64 0, .int .i64 0, .slice none 0 0, .int .u32 0, .int .u32 0, .int .u32 0, .int .u64 0, .int .u64 0, .int .i64 0, .slice none 0 0, .slice none 0 0] #[.int .i64 a.f0, .int .i64 a.f1, .int .i64 a.f2, .int .i64 a.f3, .slice A4k a.f4.length c4k, .int .u32 a.f5, .int .u32 a.f6, .int .u32 a.f7, .int .u64 a.f8.f0, .int .u64 a.f8.f1, .int .i64 a.f9, .slice A11k a.f10.length c11k, .slice A12k a.f11.length c12k] rfl rfl (by simp [Value.oneCell'])
  clear hbz hk cA r0 r1 r2 r3 q0 q1 q2 q3 q4 q5 q6 q7 q8 q9 q10 q11 q12 s0 s1 s2 s3 s4 s5 s6 s7 s8 s9 s10 s11 s12
  have r0 := P0.out.c 0
  have r1 := P0.out.c 1
  have r2 := P0.out.c 2
  have r3 := P0.out.c 3
  have q0 := A0.out.c 0
  have q1 := A0.out.c 1
  have q2 := A0.out.c 2
  have q3 := A0.out.c 3
  have q4 := A0.out.c 4
  have q5 := A0.out.c 5
  have q6 := A0.out.c 6
  have q7 := A0.out.c 7
  have q8 := A0.out.c 8
  have q9 := A0.out.c 9
  have q10 := A0.out.c 10
  have q11 := A0.out.c 11
  have q12 := A0.out.c 12
  have s0 := B0.out.c 0
  have s1 := B0.out.c 1
  have s2 := B0.out.c 2
  have s3 := B0.out.c 3
  have s4 := B0.out.c 4
  have s5 := B0.out.c 5
  have s6 := B0.out.c 6
  have s7 := B0.out.c 7
  have s8 := B0.out.c 8
  have s9 := B0.out.c 9
  have s10 := B0.out.c 10
  have s11 := B0.out.c 11
  have s12 := B0.out.c 12
  have u0 := blk_cell C0.out 0
  have u1 := blk_cell C0.out 1
  have u2 := blk_cell C0.out 2
  have u3 := blk_cell C0.out 3
  have u4 := blk_cell C0.out 4
  have u5 := blk_cell C0.out 5
  have u6 := blk_cell C0.out 6
  have u7 := blk_cell C0.out 7
  have u8 := blk_cell C0.out 8
  have u9 := blk_cell C0.out 9
  have u10 := blk_cell C0.out 10
  have u11 := blk_cell C0.out 11
  have u12 := blk_cell C0.out 12
  go_wp2_with fail
  refine (cE1.out _ P0.out.hb _ HK.out).mono ?_
  rintro e v ⟨rfl, hbz⟩
  replace P0 := Aside0.mk (P0.out.next hbz)
  replace A0 := Aside0.mk (A0.out.next hbz)
  replace B0 := Aside0.mk (B0.out.next hbz)
  clear hbz r0 r1 r2 r3 q0 q1 q2 q3 q4 q5 q6 q7 q8 q9 q10 q11 q12 s0 s1 s2 s3 s4 s5 s6 s7 s8 s9 s10 s11 s12
  have r0 := P0.out.c 0
  have r1 := P0.out.c 1
  have r2 := P0.out.c 2
  have r3 := P0.out.c 3
  have q0 := A0.out.c 0
  have q1 := A0.out.c 1
  have q2 := A0.out.c 2
  have q3 := A0.out.c 3
  have q4 := A0.out.c 4
  have q5 := A0.out.c 5
  have q6 := A0.out.c 6
  have q7 := A0.out.c 7
  have q8 := A0.out.c 8
  have q9 := A0.out.c 9
  have q10 := A0.out.c 10
  have q11 := A0.out.c 11
  have q12 := A0.out.c 12
  have s0 := B0.out.c 0
  have s1 := B0.out.c 1
  have s2 := B0.out.c 2
  have s3 := B0.out.c 3
  have s4 := B0.out.c 4
  have s5 := B0.out.c 5
  have s6 := B0.out.c 6
  have s7 := B0.out.c 7
  have s8 := B0.out.c 8
  have s9 := B0.out.c 9
  have s10 := B0.out.c 10
  have s11 := B0.out.c 11
  have s12 := B0.out.c 12
  clear cE1 HK C0 has
  go_wp2_with fail
  refine (cE2.out _ P0.out.hb).mono ?_
  rintro e v ⟨rfl, hbz⟩
  replace P0 := Aside0.mk (P0.out.next hbz)
  replace A0 := Aside0.mk (A0.out.next hbz)
  replace B0 := Aside0.mk (B0.out.next hbz)
  clear hbz r0 r1 r2 r3 q0 q1 q2 q3 q4 q5 q6 q7 q8 q9 q10 q11 q12 s0 s1 s2 s3 s4 s5 s6 s7 s8 s9 s10 s11 s12
  have r0 := P0.out.c 0
  have r1 := P0.out.c 1
  have r2 := P0.out.c 2
  have r3 := P0.out.c 3
  have q0 := A0.out.c 0
  have q1 := A0.out.c 1
  have q2 := A0.out.c 2
  have q3 := A0.out.c 3
  have q4 := A0.out.c 4
  have q5 := A0.out.c 5
  have q6 := A0.out.c 6
  have q7 := A0.out.c 7
  have q8 := A0.out.c 8
  have q9 := A0.out.c 9
  have q10 := A0.out.c 10
  have q11 := A0.out.c 11
  have q12 := A0.out.c 12
  have s0 := B0.out.c 0
  have s1 := B0.out.c 1
  have s2 := B0.out.c 2
  have s3 := B0.out.c 3
  have s4 := B0.out.c 4
  have s5 := B0.out.c 5
  have s6 := B0.out.c 6
  have s7 := B0.out.c 7
  have s8 := B0.out.c 8
  have s9 := B0.out.c 9
  have s10 := B0.out.c 10
  have s11 := B0.out.c 11
  have s12 := B0.out.c 12
  clear cE2
  go_wp2_with fail
  go_ret
  exact ⟨rfl, P0.out.hb⟩
theorem law_One (p : Plan) (a b : Act) (cp ca cb : List Value) (w : World) (hP : k33.K w p cp) (hA : k42.K w a ca) (hB : k42.K w b cb) (hp : PlanOk p) (ha : ActOk a) (hb : ActOk b) (hT : Lib.Utf8Tabs 0 1 w) :
    Calls Tryd.prog 5 #[.agg cp.toArray, .agg ca.toArray, .agg cb.toArray] w (BoolB true w) := by
  cases h1 : bigS p with
  | true => exact one_big p a b cp ca cb w hP hA hB hp ha hb hT h1
  | false =>
    cases h2 : muchS a with
    | true => exact one_ma p a b cp ca cb w hP hA hB hp ha hb hT h1 h2
    | false =>
      cases h3 : muchS b with
      | true => exact one_mb p a b cp ca cb w hP hA hB hp ha hb hT h1 h2 h3
      | false =>
        by_cases ya : headedS p.f0 p.f1 p.f2 = true ∧ mayS p.f2.length a = true
        · by_cases yb : headedS p.f0 p.f1 p.f2 = true ∧ mayS p.f2.length b = true
          · by_cases he : lineB p.f2 a = lineB p.f2 b
            · have e := line_inj ha hb ya.1 ya.2 yb.2 he
              exact one_eq p a b cp ca cb w hP hA hB hp ha hb hT h1 h2 h3 ya yb (by rw [← e]; exact sameA_self a) he.symm
            · exact one_ne p a b cp ca cb w hP hA hB hp ha hb hT h1 h2 h3 ya yb he
          · exact one_yn p a b cp ca cb w hP hA hB hp ha hb hT h1 h2 h3 ya yb
        · by_cases yb : headedS p.f0 p.f1 p.f2 = true ∧ mayS p.f2.length b = true
          · exact one_ny p a b cp ca cb w hP hA hB hp ha hb hT h1 h2 h3 ya yb
          · exact one_nn p a b cp ca cb w hP hA hB hp ha hb hT h1 h2 h3 ya yb
end Go.Proofs.YtpdinahdcedmkaaDoor.Ext
/- An argument that is a plan, opened: its kind's reading, and that its numbers are of their kinds. -/
namespace Go.Proofs.YtpdinahdcedmkaaDoor.Ext
open Go.Proofs.YtpdinahdcedmkaaDoor.P
set_option linter.unusedVariables false
set_option linter.unusedSimpArgs false
open Go.RowKit Go.Proofs.YtpdinahdcedmkaaDoorW.PrintWords Go.Proofs.YtpdinahdcedmkaaDoorW.PrintLast Go.Proofs.YtpdinahdcedmkaaDoorW.PrintMore Go.Proofs.YtpdinahdcedmkaaDoor.Spec

/-- what is read as type t is a value of the kind -/
def Opens {α : Type} (κ : Kd α) (ok : α → Prop) (t : TypeId) : Prop := ∀ (H : Type) (enc : TypeId × Value → H) (w : World) (fuel : Nat) (cs : List Value) (x : DataW H × List MemPlace), DataW.trod enc Tryd.prog w 0 (fun _ => true) true fuel t cs = some x → ∃ a, κ.K w a cs ∧ ok a
def OpensS {α : Type} (κ : Kd α) (ok : α → Prop) (t : TypeId) : Prop := ∀ (H : Type) (enc : TypeId × Value → H) (w : World) (fuel : Nat) (cs : List Value) (x : DataW H × List MemPlace), DataW.trod enc Tryd.prog w 0 (fun _ => true) true fuel t cs = some x → ∃ A c l, cs = [.slice A (l : List α).length c] ∧ l.length ≤ c ∧ κ.C w A l.length l ∧ ∀ a ∈ l, ok a
theorem many {α : Type} {Q : Nat → α → Prop} : ∀ n, (∀ i, i < n → ∃ a, Q i a) → ∃ l : List α, l.length = n ∧ ∀ j p, l[j]? = some p → Q j p
  | 0, _ => ⟨[], rfl, fun j p h => by simp at h⟩
  | n + 1, h => by
    obtain ⟨l, hl, hq⟩ := many n (fun i hi => h i (by omega))
    obtain ⟨a, ha⟩ := h n (by omega)
    refine ⟨l ++ [a], by simp [hl], fun j p hj => ?_⟩
    by_cases hjn : j < l.length
    · rw [List.getElem?_append_left hjn] at hj
      exact hq j p hj
    · rw [List.getElem?_append_right (by omega)] at hj
      have hj0 : j = n := by
        by_cases h0 : j - l.length = 0
        · omega
        · obtain ⟨m, hm⟩ := Nat.exists_eq_succ_of_ne_zero h0
          rw [hm] at hj
          simp at hj
      subst hj0
      rw [hl, Nat.sub_self] at hj
      cases hj
      exact ha
theorem opens_slice {α : Type} {κ : Kd α} {ok : α → Prop} {t e : TypeId} (ht : Tryd.prog.underlying t = some (.slice e)) (hc : Tryd.prog.cellsOf e = κ.sz) (he : Opens κ ok e) : OpensS κ ok t := by
  intro H enc w fuel cs x h
  rcases Go.Deep.open_slice ht h with ⟨rfl, _⟩ | ⟨a, len, cap, m, n, D, Pl, rfl, hb, hl, hm, hmm, _, hx⟩
  · exact ⟨none, 0, [], rfl, Nat.le_refl _, Kd.C_nil _ _, fun a h => by cases h⟩
  · obtain ⟨l, hlen, hq⟩ := many (Q := fun j p => (∃ c, c.length = κ.sz ∧ κ.K w p c ∧ ∀ i u, c[i]? = some u → w.cell? (a.add (j * κ.sz + i)) = some u) ∧ ok p) len (fun i hi => by
      obtain ⟨cs', h1, h2⟩ := hx i (by rw [hmm]; simp; omega)
      obtain ⟨_, hl2, hc2⟩ := World.cells?_some h1
      obtain ⟨p, hK, hok⟩ := he H enc w n cs' _ h2
      rw [hc] at hl2 hc2
      refine ⟨p, ⟨cs', hl2, hK, fun k u hk => ?_⟩, hok⟩
      have hk2 : k < κ.sz := by
        rw [← hl2]
        exact (List.getElem?_eq_some_iff.1 hk).1
      have := hc2 k hk2
      rw [Go.Deep.add_add] at this
      exact this.trans hk)
    subst hlen
    have hmx : l.length ≤ 9223372036854775807 := by
      simp only [maxLen] at hm
      omega
    refine ⟨some a, cap, l, rfl, hl, ⟨rfl, hmx, fun _ => ⟨a, rfl, fun j p hj => (hq j p hj).1⟩⟩, fun p hp => ?_⟩
    obtain ⟨j, hj⟩ := List.getElem?_of_mem hp
    exact (hq j p hj).2
theorem fld {t : TypeId} {fs : Array Field} (ht : Tryd.prog.underlying t = some (.struct fs)) {H : Type} {enc : TypeId × Value → H} {w : World} {fuel : Nat} {cs : List Value} {x : DataW H × List MemPlace} (h : DataW.trod enc Tryd.prog w 0 (fun _ => true) true fuel t cs = some x) :
    ∃ n, cs.length = Tryd.prog.cellsOf t ∧ ∀ (i : Nat) (f : Field), fs[i]? = some f → ∃ y, DataW.trod enc Tryd.prog w 0 (fun _ => true) true n f.type ((cs.drop f.offset).take (Tryd.prog.cellsOf f.type)) = some y := by
  obtain ⟨xs, n, _, _, hl, hxl, hf⟩ := DataW.trod_struct ht h
  refine ⟨n, hl, fun i f hi => ?_⟩
  have hlt : i < fs.size := (Array.getElem?_eq_some_iff.1 hi).1
  exact ⟨xs[i]'(by omega), by rw [hf i f hi, List.getElem?_eq_getElem]⟩
theorem list2 {cs : List Value} (h : cs.length = 2) : ∃ c0 c1, cs = [c0, c1] := by
  match cs, h with
  | [c0, c1], _ => exact ⟨c0, c1, rfl⟩
theorem list4 {cs : List Value} (h : cs.length = 4) : ∃ c0 c1 c2 c3, cs = [c0, c1, c2, c3] := by
  match cs, h with
  | [c0, c1, c2, c3], _ => exact ⟨c0, c1, c2, c3, rfl⟩
theorem list13 {cs : List Value} (h : cs.length = 13) : ∃ c0 c1 c2 c3 c4 c5 c6 c7 c8 c9 c10 c11 c12, cs = [c0, c1, c2, c3, c4, c5, c6, c7, c8, c9, c10, c11, c12] := by
  match cs, h with
  | [c0, c1, c2, c3, c4, c5, c6, c7, c8, c9, c10, c11, c12], _ => exact ⟨c0, c1, c2, c3, c4, c5, c6, c7, c8, c9, c10, c11, c12, rfl⟩
theorem wf32 {n : Int} (h : (Lit.int .u32 n).wf = true) : u32P n := by
  simp only [Lit.wf, Bool.and_eq_true, decide_eq_true_eq, show IntKind.u32.min = 0 by decide, show IntKind.u32.max = 4294967295 by decide] at h
  exact ⟨by omega, by omega⟩
theorem wf64 {n : Int} (h : (Lit.int .u64 n).wf = true) : u64P n := by
  simp only [Lit.wf, Bool.and_eq_true, decide_eq_true_eq, show IntKind.u64.min = 0 by decide, show IntKind.u64.max = 18446744073709551615 by decide] at h
  exact ⟨by omega, by omega⟩
theorem wfi {n : Int} (h : (Lit.int .i64 n).wf = true) : -9223372036854775808 ≤ n ∧ n ≤ 9223372036854775807 := by
  simp only [Lit.wf, Bool.and_eq_true, decide_eq_true_eq, show IntKind.i64.min = -9223372036854775808 by decide, show IntKind.i64.max = 9223372036854775807 by decide] at h
  exact ⟨by omega, by omega⟩
theorem wf8 {n : Int} (h : (Lit.int .u8 n).wf = true) : 0 ≤ n ∧ n ≤ 255 := by
  simp only [Lit.wf, Bool.and_eq_true, decide_eq_true_eq, show IntKind.u8.min = 0 by decide, show IntKind.u8.max = 255 by decide] at h
  omega
theorem opens_u8 : Opens (Kd.int .u8) (fun n => 0 ≤ n ∧ n ≤ 255) 5 := by
  intro H enc w fuel cs x h
  obtain ⟨n, rfl, -, wf⟩ := DataW.trod_int Tryd.underlying5 h
  exact ⟨n, rfl, wf8 wf⟩
theorem opens_b : Opens Kd.bool (fun _ => True) 4 := by
  intro H enc w fuel cs x h
  obtain ⟨n, rfl, -⟩ := DataW.trod_bool Tryd.underlying4 h
  exact ⟨n, rfl, trivial⟩
theorem opens_s : Opens Kd.string (fun _ => True) 9 := by
  intro H enc w fuel cs x h
  obtain ⟨n, rfl, -, -⟩ := DataW.trod_string Tryd.underlying9 h
  exact ⟨n, rfl, trivial⟩
theorem opens_by : OpensS (Kd.int .u8) (fun n => 0 ≤ n ∧ n ≤ 255) 39 := opens_slice Tryd.underlying39 (by kernel_rfl) opens_u8
theorem opens_bo : OpensS Kd.bool (fun _ => True) 40 := opens_slice Tryd.underlying40 (by kernel_rfl) opens_b
theorem opens_st : OpensS Kd.string (fun _ => True) 25 := opens_slice Tryd.underlying25 (by kernel_rfl) opens_s
set_option maxHeartbeats 4000000 in
set_option maxRecDepth 100000 in
theorem opens_rg : Opens k38 (fun v => u64P v.f0 ∧ u64P v.f1) 38 := by
  intro H enc w fuel cs x h
  obtain ⟨n, hl, hf⟩ := fld Tryd.underlying38 h
  clear h
  rw [show Tryd.prog.cellsOf 38 = 2 by kernel_rfl] at hl
  have k_uint64 : Tryd.prog.cellsOf 36 = 1 := by kernel_rfl
  obtain ⟨c0, c1, rfl⟩ := list2 hl
  · skip
    obtain ⟨y0, h0⟩ := hf 0 _ rfl
    replace h0 : DataW.trod enc Tryd.prog w 0 (fun _ => true) true n 36 [c0] = some y0 := by simpa [k_uint64] using h0
    obtain ⟨v0, e0, -, w0⟩ := DataW.trod_int Tryd.underlying36 h0
    cases e0
    obtain ⟨y1, h1⟩ := hf 1 _ rfl
    replace h1 : DataW.trod enc Tryd.prog w 0 (fun _ => true) true n 36 [c1] = some y1 := by simpa [k_uint64] using h1
    obtain ⟨v1, e1, -, w1⟩ := DataW.trod_int Tryd.underlying36 h1
    cases e1
    exact ⟨⟨v0, v1⟩, k38_mk w ⟨v0, v1⟩ , ⟨wf64 w0, wf64 w1⟩⟩
set_option maxHeartbeats 4000000 in
set_option maxRecDepth 100000 in
theorem opens_level : Opens k72 (fun v => u32P v.f0 ∧ u32P v.f1) 72 := by
  intro H enc w fuel cs x h
  obtain ⟨n, hl, hf⟩ := fld Tryd.underlying72 h
  clear h
  rw [show Tryd.prog.cellsOf 72 = 2 by kernel_rfl] at hl
  have k_uint32 : Tryd.prog.cellsOf 35 = 1 := by kernel_rfl
  obtain ⟨c0, c1, rfl⟩ := list2 hl
  · skip
    obtain ⟨y0, h0⟩ := hf 0 _ rfl
    replace h0 : DataW.trod enc Tryd.prog w 0 (fun _ => true) true n 35 [c0] = some y0 := by simpa [k_uint32] using h0
    obtain ⟨v0, e0, -, w0⟩ := DataW.trod_int Tryd.underlying35 h0
    cases e0
    obtain ⟨y1, h1⟩ := hf 1 _ rfl
    replace h1 : DataW.trod enc Tryd.prog w 0 (fun _ => true) true n 35 [c1] = some y1 := by simpa [k_uint32] using h1
    obtain ⟨v1, e1, -, w1⟩ := DataW.trod_int Tryd.underlying35 h1
    cases e1
    exact ⟨⟨v0, v1⟩, k72_mk w ⟨v0, v1⟩ , ⟨wf32 w0, wf32 w1⟩⟩
theorem opens_lv : OpensS k72 (fun v => u32P v.f0 ∧ u32P v.f1) 34 := opens_slice Tryd.underlying34 (by kernel_rfl) opens_level
theorem getD_all {α : Type} {Q : α → Prop} {l : List α} {d : α} (h : ∀ a ∈ l, Q a) (hd : Q d) (i : Nat) : Q (l.getD i d) := by
  rw [List.getD_eq_getElem?_getD]
  by_cases hi : i < l.length
  · rw [List.getElem?_eq_getElem hi]
    exact h _ (List.getElem_mem hi)
  · rw [List.getElem?_eq_none (by omega)]
    exact hd
theorem u32_0 : u32P 0 := ⟨by omega, by omega⟩
set_option maxHeartbeats 4000000 in
set_option maxRecDepth 100000 in
theorem opens_act : Opens k42 ActOk 42 := by
  intro H enc w fuel cs x h
  obtain ⟨n, hl, hf⟩ := fld Tryd.underlying42 h
  clear h
  rw [show Tryd.prog.cellsOf 42 = 13 by kernel_rfl] at hl
  have k_bo : Tryd.prog.cellsOf 40 = 1 := by kernel_rfl
  have k_by : Tryd.prog.cellsOf 39 = 1 := by kernel_rfl
  have k_int : Tryd.prog.cellsOf 3 = 1 := by kernel_rfl
  have k_lv : Tryd.prog.cellsOf 34 = 1 := by kernel_rfl
  have k_rg : Tryd.prog.cellsOf 38 = 2 := by kernel_rfl
  have k_uint32 : Tryd.prog.cellsOf 35 = 1 := by kernel_rfl
  obtain ⟨c0, c1, c2, c3, c4, c5, c6, c7, c8, c9, c10, c11, c12, rfl⟩ := list13 hl
  · skip
    obtain ⟨y0, h0⟩ := hf 0 _ rfl
    replace h0 : DataW.trod enc Tryd.prog w 0 (fun _ => true) true n 3 [c0] = some y0 := by simpa [k_int] using h0
    obtain ⟨v0, e0, -, w0⟩ := DataW.trod_int Tryd.underlying3 h0
    cases e0
    obtain ⟨y1, h1⟩ := hf 1 _ rfl
    replace h1 : DataW.trod enc Tryd.prog w 0 (fun _ => true) true n 3 [c1] = some y1 := by simpa [k_int] using h1
    obtain ⟨v1, e1, -, w1⟩ := DataW.trod_int Tryd.underlying3 h1
    cases e1
    obtain ⟨y2, h2⟩ := hf 2 _ rfl
    replace h2 : DataW.trod enc Tryd.prog w 0 (fun _ => true) true n 3 [c2] = some y2 := by simpa [k_int] using h2
    obtain ⟨v2, e2, -, w2⟩ := DataW.trod_int Tryd.underlying3 h2
    cases e2
    obtain ⟨y3, h3⟩ := hf 3 _ rfl
    replace h3 : DataW.trod enc Tryd.prog w 0 (fun _ => true) true n 3 [c3] = some y3 := by simpa [k_int] using h3
    obtain ⟨v3, e3, -, w3⟩ := DataW.trod_int Tryd.underlying3 h3
    cases e3
    obtain ⟨y4, h4⟩ := hf 4 _ rfl
    replace h4 : DataW.trod enc Tryd.prog w 0 (fun _ => true) true n 34 [c4] = some y4 := by simpa [k_lv] using h4
    obtain ⟨A4, d4, l4, e4, u4, g4, o4⟩ := opens_lv H enc w n _ _ h4
    cases e4
    obtain ⟨y5, h5⟩ := hf 5 _ rfl
    replace h5 : DataW.trod enc Tryd.prog w 0 (fun _ => true) true n 35 [c5] = some y5 := by simpa [k_uint32] using h5
    obtain ⟨v5, e5, -, w5⟩ := DataW.trod_int Tryd.underlying35 h5
    cases e5
    obtain ⟨y6, h6⟩ := hf 6 _ rfl
    replace h6 : DataW.trod enc Tryd.prog w 0 (fun _ => true) true n 35 [c6] = some y6 := by simpa [k_uint32] using h6
    obtain ⟨v6, e6, -, w6⟩ := DataW.trod_int Tryd.underlying35 h6
    cases e6
    obtain ⟨y7, h7⟩ := hf 7 _ rfl
    replace h7 : DataW.trod enc Tryd.prog w 0 (fun _ => true) true n 35 [c7] = some y7 := by simpa [k_uint32] using h7
    obtain ⟨v7, e7, -, w7⟩ := DataW.trod_int Tryd.underlying35 h7
    cases e7
    obtain ⟨y8, h8⟩ := hf 8 _ rfl
    replace h8 : DataW.trod enc Tryd.prog w 0 (fun _ => true) true n 38 [c8, c9] = some y8 := by simpa [k_rg] using h8
    obtain ⟨v8, q8, b8⟩ := opens_rg H enc w n _ _ h8
    cases k38_open q8
    obtain ⟨y9, h9⟩ := hf 9 _ rfl
    replace h9 : DataW.trod enc Tryd.prog w 0 (fun _ => true) true n 3 [c10] = some y9 := by simpa [k_int] using h9
    obtain ⟨v9, e9, -, w9⟩ := DataW.trod_int Tryd.underlying3 h9
    cases e9
    obtain ⟨y10, h10⟩ := hf 10 _ rfl
    replace h10 : DataW.trod enc Tryd.prog w 0 (fun _ => true) true n 39 [c11] = some y10 := by simpa [k_by] using h10
    obtain ⟨A10, d10, l10, e10, u10, g10, o10⟩ := opens_by H enc w n _ _ h10
    cases e10
    obtain ⟨y11, h11⟩ := hf 11 _ rfl
    replace h11 : DataW.trod enc Tryd.prog w 0 (fun _ => true) true n 40 [c12] = some y11 := by simpa [k_bo] using h11
    obtain ⟨A11, d11, l11, e11, u11, g11, o11⟩ := opens_bo H enc w n _ _ h11
    cases e11
    exact ⟨⟨v0, v1, v2, v3, l4, v5, v6, v7, v8, v9, l10, l11⟩, k42_mk w ⟨v0, v1, v2, v3, l4, v5, v6, v7, v8, v9, l10, l11⟩ u4 g4 u10 g10 u11 g11, ⟨⟨fun i => getD_all (Q := fun v : Lv => u32P v.f0 ∧ u32P v.f1) o4 ⟨u32_0, u32_0⟩ i, wf32 w5⟩, o10, b8, wf32 w6, wf32 w7, by simp only [List.forall_mem_cons]; exact ⟨wfi w0, wfi w1, wfi w2, wfi w3, wfi w9, fun _ h => by cases h⟩⟩⟩
theorem opens_ac : OpensS k42 ActOk 31 := opens_slice Tryd.underlying31 (by kernel_rfl) opens_act
theorem actOk_z : ActOk z42 := ⟨⟨fun i => by exact ⟨u32_0, u32_0⟩, u32_0⟩, fun x h => (by cases h), ⟨⟨by decide, by decide⟩, ⟨by decide, by decide⟩⟩, u32_0, u32_0, by decide⟩
set_option maxHeartbeats 4000000 in
set_option maxRecDepth 100000 in
theorem opens_plan : Opens k33 PlanOk 33 := by
  intro H enc w fuel cs x h
  obtain ⟨n, hl, hf⟩ := fld Tryd.underlying33 h
  clear h
  rw [show Tryd.prog.cellsOf 33 = 4 by kernel_rfl] at hl
  have k_ac : Tryd.prog.cellsOf 31 = 1 := by kernel_rfl
  have k_int : Tryd.prog.cellsOf 3 = 1 := by kernel_rfl
  have k_st : Tryd.prog.cellsOf 25 = 1 := by kernel_rfl
  obtain ⟨c0, c1, c2, c3, rfl⟩ := list4 hl
  · skip
    obtain ⟨y0, h0⟩ := hf 0 _ rfl
    replace h0 : DataW.trod enc Tryd.prog w 0 (fun _ => true) true n 3 [c0] = some y0 := by simpa [k_int] using h0
    obtain ⟨v0, e0, -, w0⟩ := DataW.trod_int Tryd.underlying3 h0
    cases e0
    obtain ⟨y1, h1⟩ := hf 1 _ rfl
    replace h1 : DataW.trod enc Tryd.prog w 0 (fun _ => true) true n 3 [c1] = some y1 := by simpa [k_int] using h1
    obtain ⟨v1, e1, -, w1⟩ := DataW.trod_int Tryd.underlying3 h1
    cases e1
    obtain ⟨y2, h2⟩ := hf 2 _ rfl
    replace h2 : DataW.trod enc Tryd.prog w 0 (fun _ => true) true n 25 [c2] = some y2 := by simpa [k_st] using h2
    obtain ⟨A2, d2, l2, e2, u2, g2, o2⟩ := opens_st H enc w n _ _ h2
    cases e2
    obtain ⟨y3, h3⟩ := hf 3 _ rfl
    replace h3 : DataW.trod enc Tryd.prog w 0 (fun _ => true) true n 31 [c3] = some y3 := by simpa [k_ac] using h3
    obtain ⟨A3, d3, l3, e3, u3, g3, o3⟩ := opens_ac H enc w n _ _ h3
    cases e3
    exact ⟨⟨v0, v1, l2, l3⟩, k33_mk w ⟨v0, v1, l2, l3⟩ u2 g2 u3 g3, ⟨fun i => getD_all (Q := ActOk) o3 actOk_z i, by simp only [List.forall_mem_cons]; exact ⟨wfi w0, wfi w1, fun _ h => by cases h⟩⟩⟩
set_option maxRecDepth 100000 in
/-- an argument that is a plan -/
theorem open_plan {H : Type} {enc : TypeId × Value → H} {W : World} {r : Reach} {b0 : Nat} {v : Value} {d : DataW H} {ps : List MemPlace} (hv : Value.okWide Tryd.prog W r b0 33 v) (h : DataW.Trod enc Tryd.prog W 0 (fun _ => true) true 33 v d ps) :
    ∃ (cs : List Value) (p : Plan), v = .agg cs.toArray ∧ k33.K W p cs ∧ PlanOk p := by
  obtain ⟨cs, rfl, -⟩ := Go.WideShapes.okWide_struct Tryd.underlying33 hv
  obtain ⟨fuel, hf⟩ := h
  obtain ⟨p, hK, hok⟩ := opens_plan H enc W fuel _ _ hf
  exact ⟨cs.toList, p, by simp, by simpa [Value.cells] using hK, hok⟩
end Go.Proofs.YtpdinahdcedmkaaDoor.Ext
