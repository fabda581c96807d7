import Derived.Test.YtpdinahdcedmkaaGreatDoorK11
import Derived.Test.YtpdinahdcedmkaaGreatDoorK5
set_option linter.unusedVariables false
set_option linter.unusedSimpArgs false
set_option maxHeartbeats 40000000
set_option maxRecDepth 100000
/- The document's Equal and SameAct. -/
namespace Go.Proofs.YtpdinahdcedmkaaGreatDoor.Ext
open Go.Proofs.YtpdinahdcedmkaaGreatDoor.P
open Go.RowKit YtpdinahdcedmkaaGreatDoorW.PrintWords YtpdinahdcedmkaaGreatDoorW.PrintLast YtpdinahdcedmkaaGreatDoorW.PrintMore
theorem nums_inj (a b : List Int) (ha : Bytes a) (hb : Bytes b) : ((strOfNums a).toList == (strOfNums b).toList) = decide (a = b) := by
 by_cases h : a = b
 · rw [h, decide_eq_true rfl]; exact beq_self_eq_true _
 · rw [decide_eq_false h]
   refine str_ne fun e => h ?_
   have h1 := nums_toNat a ha
   rw [e, nums_toNat b hb] at h1
   have back : ∀ l : List Int, Bytes l -> (l.map Int.toNat).map Int.ofNat = l := fun l hl => by
    rw [List.map_map]
    conv => rhs; rw [<- List.map_id l]
    exact List.map_congr_left fun x hx => by have := hl x hx; show ((x.toNat : Nat) : Int) = x; omega
   rw [<- back a ha, <- back b hb, h1]
theorem r_equal (A : Option Addr) (c : Nat) (a : List Int) (B : Option Addr) (d : Nat) (b : List Int) (w : World) (hA : Kd.C (Kd.int .u8) w A a.length a) (hB : Kd.C (Kd.int .u8) w B b.length b) (hc : a.length <= c) (hd : b.length <= d) (ha : Bytes a) (hb : Bytes b) :
 Calls Tryz.prog 41 #[.slice A a.length c, .slice B b.length d] w (BoolB (decide (a = b)) w) := by
 rw [<- nums_inj a b ha hb]
 exact (liveryref01_Equal.calls A c a B d b _ w hA hc hB hd rfl).mono fun e w' h => ⟨h.1, h.2.below⟩
attribute [local go_sem high] eqRg eqLv
theorem r_sameAct (x y : Act) (cs ds : List Value) (w : World) (hK : k34.K w x cs) (hL : k34.K w y ds) (hx : DataBd x) (hy : DataBd y) :
 Calls Tryz.prog 15 #[.agg cs.toArray, .agg ds.toArray] w (BoolB (sameA x y) w) := by
 have X0 := Zz.mk ((Bx.new w cs 34).push (.cells ds.toArray 34))
 have Y0 := Zz.mk ((Bx.new w cs 34).on ds 34 |>.at_ (show _ = w.heap.size + 1 by simp))
 obtain ⟨A4, c4, A11, c11, A12, c12, rfl, l4, g4, l11, g11, l12, g12⟩ := k34_open hK
 obtain ⟨B4, d4, B11, d11, B12, d12, rfl, m4, e4, m11, e11, m12, e12⟩ := k34_open hL
 have cD := Lib.hid (fun W (hW : Below w.heap.size w W) => r_equal A11 c11 x.f10 B11 d11 y.f10 W (Kd.C_below g11 hW) (Kd.C_below e11 hW) l11 m11 hx.1 hy.1)
 have G4 := Zz.mk g4
 have G12 := Zz.mk g12
 have E4 := Zz.mk e4
 have E12 := Zz.mk e12
 have hn4 : x.f4.length <= 9223372036854775807 := g4.2.1
 have hn12 : x.f11.length <= 9223372036854775807 := g12.2.1
 clear hK hL hx hy g4 g11 g12 l11 e4 m11 e11 e12
 obtain ⟨R, hR⟩ : ∃ R, sameA x y = R := ⟨_, rfl⟩
 rw [hR]
 rw [sameA_parts] at hR
 obtain ⟨P, hP⟩ : ∃ P, (plainA x y && (decide (x.f10 = y.f10) && (x.f4.length == y.f4.length && x.f11.length == y.f11.length))) = P := ⟨_, rfl⟩
 have hQ : R = (P && (eqBy lvq x.f4 y.f4 && eqBy boq x.f11 y.f11)) := by
  rw [<- hR, <- hP]
  by_cases h4 : x.f4.length = y.f4.length
  · by_cases h11 : x.f11.length = y.f11.length
    · rw [h4, h11]; simp [Bool.and_assoc]
    · rw [eqBy_len boq _ _ h11]; simp
  · rw [eqBy_len lvq _ _ h4]; simp
 have HQ := Lib.hid hQ
 clear hQ hR
 generalize decide (x.f10 = y.f10) = bD at *
 unfold plainA at hP
 obtain ⟨z0, e0⟩ : ∃ b, (x.f0 == y.f0) = b := ⟨_, rfl⟩
 have f0 : (x.f0 != y.f0) = !z0 := by rw [<- e0]; rfl
 obtain ⟨z1, e1⟩ : ∃ b, (x.f1 == y.f1) = b := ⟨_, rfl⟩
 have f1 : (x.f1 != y.f1) = !z1 := by rw [<- e1]; rfl
 obtain ⟨z2, e2⟩ : ∃ b, (x.f2 == y.f2) = b := ⟨_, rfl⟩
 have f2 : (x.f2 != y.f2) = !z2 := by rw [<- e2]; rfl
 obtain ⟨z3, e3⟩ : ∃ b, (x.f3 == y.f3) = b := ⟨_, rfl⟩
 have f3 : (x.f3 != y.f3) = !z3 := by rw [<- e3]; rfl
 obtain ⟨z4, e4⟩ : ∃ b, (x.f5 == y.f5) = b := ⟨_, rfl⟩
 have f4 : (x.f5 != y.f5) = !z4 := by rw [<- e4]; rfl
 obtain ⟨z5, e5⟩ : ∃ b, (x.f6 == y.f6) = b := ⟨_, rfl⟩
 have f5 : (x.f6 != y.f6) = !z5 := by rw [<- e5]; rfl
 obtain ⟨z6, e6⟩ : ∃ b, (x.f7 == y.f7) = b := ⟨_, rfl⟩
 have f6 : (x.f7 != y.f7) = !z6 := by rw [<- e6]; rfl
 obtain ⟨z7, e7⟩ : ∃ b, (x.f9 == y.f9) = b := ⟨_, rfl⟩
 have f7 : (x.f9 != y.f9) = !z7 := by rw [<- e7]; rfl
 obtain ⟨z8, e8⟩ : ∃ b, (x.f8.f0 == y.f8.f0) = b := ⟨_, rfl⟩
 have f8 : (x.f8.f0 != y.f8.f0) = !z8 := by rw [<- e8]; rfl
 obtain ⟨z9, e9⟩ : ∃ b, (x.f8.f1 == y.f8.f1) = b := ⟨_, rfl⟩
 have f9 : (x.f8.f1 != y.f8.f1) = !z9 := by rw [<- e9]; rfl
 rw [e0, e1, e2, e3, e4, e5, e6, e8, e9, e7] at hP
 obtain ⟨y4, e10⟩ : ∃ b, (x.f4.length == y.f4.length) = b := ⟨_, rfl⟩
 obtain ⟨y11, e11⟩ : ∃ b, (x.f11.length == y.f11.length) = b := ⟨_, rfl⟩
 rw [e10, e11] at hP
 have f10 : ((x.f4.length : Int) != (y.f4.length : Int)) = !y4 := by rw [<- e10, Bool.eq_iff_iff]; simp; omega
 have f11 : ((x.f11.length : Int) != (y.f11.length : Int)) = !y11 := by rw [<- e11, Bool.eq_iff_iff]; simp; omega
 have HP := Lib.hid hP
 have HL := Lib.hid (show P = true -> x.f4.length = y.f4.length /\ x.f11.length = y.f11.length from fun h => by rw [<- hP] at h; simp only [Bool.and_eq_true] at h; exact ⟨beq_iff_eq.1 (e10.trans h.2.2.1), beq_iff_eq.1 (e11.trans h.2.2.2)⟩)
 clear hP e10 e11
 obtain ⟨q0, q1, q2, q3, q4, q5, q6, q7, q8, q9, q10, q11, q12⟩ := cxs13 X0.out
 obtain ⟨r0, r1, r2, r3, r4, r5, r6, r7, r8, r9, r10, r11, r12⟩ := cxs13 Y0.out
 go_enter Tryz.func15, Tryz.ntmps15
 go_upto_region 1 with fail
 go_cut [93] (fun s93 wx => s93 = .bool (!P) /\ Zz (Bx w wx w.heap.size [.int .i64 x.f0, .int .i64 x.f1, .int .i64 x.f2, .int .i64 x.f3, .slice A4 x.f4.length c4, .int .u32 x.f5, .int .u32 x.f6, .int .u32 x.f7, .int .u64 x.f8.f0, .int .u64 x.f8.f1, .int .i64 x.f9, .slice A11 x.f10.length c11, .slice A12 x.f11.length c12] 34) /\ Zz (Bx w wx (w.heap.size + 1) [.int .i64 y.f0, .int .i64 y.f1, .int .i64 y.f2, .int .i64 y.f3, .slice B4 y.f4.length d4, .int .u32 y.f5, .int .u32 y.f6, .int .u32 y.f7, .int .u64 y.f8.f0, .int .u64 y.f8.f1, .int .i64 y.f9, .slice B11 y.f10.length d11, .slice B12 y.f11.length d12] 34))
 case first =>
  cases z0 with
  | false =>
    simp only [Bool.not_false] at f0
    as_aux_lemma =>
     obtain rfl : P = false := by rw [<- HP.out]; rfl
     clear HP HQ HL G4 G12 E4 E12
     go_wp2_with (first
      | (go_at_call 41
         with_reducible refine (cD.out _ X0.out.hb).mono ?_
         rintro e v ⟨rfl, hb⟩
         replace X0 := Zz.mk (X0.out.next hb)
         replace Y0 := Zz.mk (Y0.out.next hb)
         clear hb
         have q4 := X0.out.c 4
         have r4 := Y0.out.c 4
         have q12 := X0.out.c 12
         have r12 := Y0.out.c 12)
      | fail)
     go_meet
     exact ⟨by rfl, X0, Y0⟩
  | true =>
  simp only [Bool.not_true] at f0
  cases z1 with
  | false =>
    simp only [Bool.not_false] at f1
    as_aux_lemma =>
     obtain rfl : P = false := by rw [<- HP.out]; rfl
     clear HP HQ HL G4 G12 E4 E12
     go_wp2_with (first
      | (go_at_call 41
         with_reducible refine (cD.out _ X0.out.hb).mono ?_
         rintro e v ⟨rfl, hb⟩
         replace X0 := Zz.mk (X0.out.next hb)
         replace Y0 := Zz.mk (Y0.out.next hb)
         clear hb
         have q4 := X0.out.c 4
         have r4 := Y0.out.c 4
         have q12 := X0.out.c 12
         have r12 := Y0.out.c 12)
      | fail)
     go_meet
     exact ⟨by rfl, X0, Y0⟩
  | true =>
  simp only [Bool.not_true] at f1
  cases z2 with
  | false =>
    simp only [Bool.not_false] at f2
    as_aux_lemma =>
     obtain rfl : P = false := by rw [<- HP.out]; rfl
     clear HP HQ HL G4 G12 E4 E12
     go_wp2_with (first
      | (go_at_call 41
         with_reducible refine (cD.out _ X0.out.hb).mono ?_
         rintro e v ⟨rfl, hb⟩
         replace X0 := Zz.mk (X0.out.next hb)
         replace Y0 := Zz.mk (Y0.out.next hb)
         clear hb
         have q4 := X0.out.c 4
         have r4 := Y0.out.c 4
         have q12 := X0.out.c 12
         have r12 := Y0.out.c 12)
      | fail)
     go_meet
     exact ⟨by rfl, X0, Y0⟩
  | true =>
  simp only [Bool.not_true] at f2
  cases z3 with
  | false =>
    simp only [Bool.not_false] at f3
    as_aux_lemma =>
     obtain rfl : P = false := by rw [<- HP.out]; rfl
     clear HP HQ HL G4 G12 E4 E12
     go_wp2_with (first
      | (go_at_call 41
         with_reducible refine (cD.out _ X0.out.hb).mono ?_
         rintro e v ⟨rfl, hb⟩
         replace X0 := Zz.mk (X0.out.next hb)
         replace Y0 := Zz.mk (Y0.out.next hb)
         clear hb
         have q4 := X0.out.c 4
         have r4 := Y0.out.c 4
         have q12 := X0.out.c 12
         have r12 := Y0.out.c 12)
      | fail)
     go_meet
     exact ⟨by rfl, X0, Y0⟩
  | true =>
  simp only [Bool.not_true] at f3
  cases z4 with
  | false =>
    simp only [Bool.not_false] at f4
    as_aux_lemma =>
     obtain rfl : P = false := by rw [<- HP.out]; rfl
     clear HP HQ HL G4 G12 E4 E12
     go_wp2_with (first
      | (go_at_call 41
         with_reducible refine (cD.out _ X0.out.hb).mono ?_
         rintro e v ⟨rfl, hb⟩
         replace X0 := Zz.mk (X0.out.next hb)
         replace Y0 := Zz.mk (Y0.out.next hb)
         clear hb
         have q4 := X0.out.c 4
         have r4 := Y0.out.c 4
         have q12 := X0.out.c 12
         have r12 := Y0.out.c 12)
      | fail)
     go_meet
     exact ⟨by rfl, X0, Y0⟩
  | true =>
  simp only [Bool.not_true] at f4
  cases z5 with
  | false =>
    simp only [Bool.not_false] at f5
    as_aux_lemma =>
     obtain rfl : P = false := by rw [<- HP.out]; rfl
     clear HP HQ HL G4 G12 E4 E12
     go_wp2_with (first
      | (go_at_call 41
         with_reducible refine (cD.out _ X0.out.hb).mono ?_
         rintro e v ⟨rfl, hb⟩
         replace X0 := Zz.mk (X0.out.next hb)
         replace Y0 := Zz.mk (Y0.out.next hb)
         clear hb
         have q4 := X0.out.c 4
         have r4 := Y0.out.c 4
         have q12 := X0.out.c 12
         have r12 := Y0.out.c 12)
      | fail)
     go_meet
     exact ⟨by rfl, X0, Y0⟩
  | true =>
  simp only [Bool.not_true] at f5
  cases z6 with
  | false =>
    simp only [Bool.not_false] at f6
    as_aux_lemma =>
     obtain rfl : P = false := by rw [<- HP.out]; rfl
     clear HP HQ HL G4 G12 E4 E12
     go_wp2_with (first
      | (go_at_call 41
         with_reducible refine (cD.out _ X0.out.hb).mono ?_
         rintro e v ⟨rfl, hb⟩
         replace X0 := Zz.mk (X0.out.next hb)
         replace Y0 := Zz.mk (Y0.out.next hb)
         clear hb
         have q4 := X0.out.c 4
         have r4 := Y0.out.c 4
         have q12 := X0.out.c 12
         have r12 := Y0.out.c 12)
      | fail)
     go_meet
     exact ⟨by rfl, X0, Y0⟩
  | true =>
  simp only [Bool.not_true] at f6
  cases z8 with
  | false =>
    as_aux_lemma =>
     obtain rfl : P = false := by rw [<- HP.out]; rfl
     clear HP HQ HL G4 G12 E4 E12
     go_wp2_with (first
      | (go_at_call 41
         with_reducible refine (cD.out _ X0.out.hb).mono ?_
         rintro e v ⟨rfl, hb⟩
         replace X0 := Zz.mk (X0.out.next hb)
         replace Y0 := Zz.mk (Y0.out.next hb)
         clear hb
         have q4 := X0.out.c 4
         have r4 := Y0.out.c 4
         have q12 := X0.out.c 12
         have r12 := Y0.out.c 12)
      | fail)
     go_meet
     exact ⟨by rfl, X0, Y0⟩
  | true =>
  cases z9 with
  | false =>
    as_aux_lemma =>
     obtain rfl : P = false := by rw [<- HP.out]; rfl
     clear HP HQ HL G4 G12 E4 E12
     go_wp2_with (first
      | (go_at_call 41
         with_reducible refine (cD.out _ X0.out.hb).mono ?_
         rintro e v ⟨rfl, hb⟩
         replace X0 := Zz.mk (X0.out.next hb)
         replace Y0 := Zz.mk (Y0.out.next hb)
         clear hb
         have q4 := X0.out.c 4
         have r4 := Y0.out.c 4
         have q12 := X0.out.c 12
         have r12 := Y0.out.c 12)
      | fail)
     go_meet
     exact ⟨by rfl, X0, Y0⟩
  | true =>
  cases z7 with
  | false =>
    simp only [Bool.not_false] at f7
    as_aux_lemma =>
     obtain rfl : P = false := by rw [<- HP.out]; rfl
     clear HP HQ HL G4 G12 E4 E12
     go_wp2_with (first
      | (go_at_call 41
         with_reducible refine (cD.out _ X0.out.hb).mono ?_
         rintro e v ⟨rfl, hb⟩
         replace X0 := Zz.mk (X0.out.next hb)
         replace Y0 := Zz.mk (Y0.out.next hb)
         clear hb
         have q4 := X0.out.c 4
         have r4 := Y0.out.c 4
         have q12 := X0.out.c 12
         have r12 := Y0.out.c 12)
      | fail)
     go_meet
     exact ⟨by rfl, X0, Y0⟩
  | true =>
  simp only [Bool.not_true] at f7
  cases bD with
  | false =>
    as_aux_lemma =>
     obtain rfl : P = false := by rw [<- HP.out]; rfl
     clear HP HQ HL G4 G12 E4 E12
     go_wp2_with (first
      | (go_at_call 41
         with_reducible refine (cD.out _ X0.out.hb).mono ?_
         rintro e v ⟨rfl, hb⟩
         replace X0 := Zz.mk (X0.out.next hb)
         replace Y0 := Zz.mk (Y0.out.next hb)
         clear hb
         have q4 := X0.out.c 4
         have r4 := Y0.out.c 4
         have q12 := X0.out.c 12
         have r12 := Y0.out.c 12)
      | fail)
     go_meet
     exact ⟨by rfl, X0, Y0⟩
  | true =>
  cases y4 with
  | false =>
    simp only [Bool.not_false] at f10
    as_aux_lemma =>
     obtain rfl : P = false := by rw [<- HP.out]; rfl
     clear HP HQ HL G4 G12 E4 E12
     go_wp2_with (first
      | (go_at_call 41
         with_reducible refine (cD.out _ X0.out.hb).mono ?_
         rintro e v ⟨rfl, hb⟩
         replace X0 := Zz.mk (X0.out.next hb)
         replace Y0 := Zz.mk (Y0.out.next hb)
         clear hb
         have q4 := X0.out.c 4
         have r4 := Y0.out.c 4
         have q12 := X0.out.c 12
         have r12 := Y0.out.c 12)
      | fail)
     go_meet
     exact ⟨by rfl, X0, Y0⟩
  | true =>
  simp only [Bool.not_true] at f10
  cases y11 with
  | false =>
    simp only [Bool.not_false] at f11
    as_aux_lemma =>
     obtain rfl : P = false := by rw [<- HP.out]; rfl
     clear HP HQ HL G4 G12 E4 E12
     go_wp2_with (first
      | (go_at_call 41
         with_reducible refine (cD.out _ X0.out.hb).mono ?_
         rintro e v ⟨rfl, hb⟩
         replace X0 := Zz.mk (X0.out.next hb)
         replace Y0 := Zz.mk (Y0.out.next hb)
         clear hb
         have q4 := X0.out.c 4
         have r4 := Y0.out.c 4
         have q12 := X0.out.c 12
         have r12 := Y0.out.c 12)
      | fail)
     go_meet
     exact ⟨by rfl, X0, Y0⟩
  | true =>
  simp only [Bool.not_true] at f11
  as_aux_lemma =>
   obtain rfl : P = true := by rw [<- HP.out]; rfl
   clear HP HQ HL G4 G12 E4 E12
   go_wp2_with (first
    | (go_at_call 41
       with_reducible refine (cD.out _ X0.out.hb).mono ?_
       rintro e v ⟨rfl, hb⟩
       replace X0 := Zz.mk (X0.out.next hb)
       replace Y0 := Zz.mk (Y0.out.next hb)
       clear hb
       have q4 := X0.out.c 4
       have r4 := Y0.out.c 4
       have q12 := X0.out.c 12
       have r12 := Y0.out.c 12)
    | fail)
   go_meet
   exact ⟨by rfl, X0, Y0⟩
 case rest =>
  obtain ⟨rfl, X1, Y1⟩ := hcut
  clear X0 Y0 HP cD q0 q1 q2 q3 q4 q5 q6 q7 q8 q9 q10 q11 q12 r0 r1 r2 r3 r4 r5 r6 r7 r8 r9 r10 r11 r12 e0 e1 e2 e3 e4 e5 e6 e7 e8 e9 f0 f1 f2 f3 f4 f5 f6 f7 f8 f9 f10 f11
  cases P with
  | false =>
    go_wp2
    go_ret
    exact boolB_i (by rw [HQ.out]; rfl) X1.out.hb
  | true =>
  have H4 := Lib.hid (HL.out rfl).1
  have H12 := Lib.hid (HL.out rfl).2
  have HR := Lib.hid (show R = (eqBy lvq x.f4 y.f4 && eqBy boq x.f11 y.f11) by rw [HQ.out]; rfl)
  clear HL HQ
  have q4 := X1.out.c 4
  go_wp2_with fail
  go_loopw [97] (fun v97 wr => ∃ i : Nat, i <= x.f4.length /\ v97 = .int .i64 (i : Int) /\ Zz (eqBy lvq (x.f4.drop i) (y.f4.drop i) = eqBy lvq x.f4 y.f4) /\ Zz (Bx w wr w.heap.size [.int .i64 x.f0, .int .i64 x.f1, .int .i64 x.f2, .int .i64 x.f3, .slice A4 x.f4.length c4, .int .u32 x.f5, .int .u32 x.f6, .int .u32 x.f7, .int .u64 x.f8.f0, .int .u64 x.f8.f1, .int .i64 x.f9, .slice A11 x.f10.length c11, .slice A12 x.f11.length c12] 34) /\ Zz (Bx w wr (w.heap.size + 1) [.int .i64 y.f0, .int .i64 y.f1, .int .i64 y.f2, .int .i64 y.f3, .slice B4 y.f4.length d4, .int .u32 y.f5, .int .u32 y.f6, .int .u32 y.f7, .int .u64 y.f8.f0, .int .u64 y.f8.f1, .int .i64 y.f9, .slice B11 y.f10.length d11, .slice B12 y.f11.length d12] 34)) (fun v97 _ => x.f4.length - (intOf v97).toNat)
  case atStart => exact ⟨0, by omega, rfl, ⟨rfl⟩, X1, Y1⟩
  case round =>
   clear q4 X1 Y1
   obtain ⟨i, hi, rfl, hE, X2, Y2⟩ := hrel
   by_cases hlt : i < x.f4.length
   · have htb : i < y.f4.length := by have := H4.out; omega
     obtain ⟨ad1, ea1, hx1, hx1'⟩ := at_T74 (Kd.C_below G4.out X2.out.hb) (i : Int) (by omega) (by omega)
     obtain ⟨ad2, ea2, hx2, hx2'⟩ := at_T74 (Kd.C_below E4.out X2.out.hb) (i : Int) (by omega) (by omega)
     subst ea1
     subst ea2
     simp only [rd_T74, Int.toNat_natCast] at hx1 hx2 hx1' hx2'
     have hE2 := hE.out
     rw [eqBy_drop lvq z74 x.f4 y.f4 i hlt htb] at hE2
     have HE := Zz.mk hE2
     clear hE2 hE
     generalize x.f4.getD i z74 = a at *
     generalize y.f4.getD i z74 = b at *
     have q4 := X2.out.c 4
     have r4 := Y2.out.c 4
     cases hq : lvq a b with
     | true =>
       have HE2 := Zz.mk (show eqBy lvq (x.f4.drop (i + 1)) (y.f4.drop (i + 1)) = eqBy lvq x.f4 y.f4 by have := HE.out; rw [hq, Bool.true_and] at this; exact this)
       unfold lvq at hq
       go_wp2
       go_quiet (fail)
       go_wp2
       go_roundw
       case rel => exact ⟨i + 1, by omega, by go_num, HE2, ⟨X2.out.next (pw_below_drewN (Below.refl _ _) nq)⟩, ⟨Y2.out.next (pw_below_drewN (Below.refl _ _) nq)⟩⟩
       case measure => simp [intOf]; omega
     | false =>
       obtain rfl : R = false := by rw [HR.out, <- HE.out, hq]; rfl
       unfold lvq at hq
       go_wp2
       go_quiet (fail)
       go_wp2
       go_ret
       exact ⟨rfl, pw_below_drewN X2.out.hb nq⟩
   · have hE2 := hE.out
     have h4 := H4.out
     rw [eqBy_end lvq _ _ _ (by omega) (by omega)] at hE2
     have HR2 := Lib.hid (show R = eqBy boq x.f11 y.f11 by rw [HR.out, <- hE2]; rfl)
     clear hE2 hE HR h4
     have q12 := X2.out.c 12
     go_wp2_with fail
     go_loopw [115] (fun v115 wr => ∃ j : Nat, j <= x.f11.length /\ v115 = .int .i64 (j : Int) /\ Zz (eqBy boq (x.f11.drop j) (y.f11.drop j) = R) /\ Zz (Bx w wr w.heap.size [.int .i64 x.f0, .int .i64 x.f1, .int .i64 x.f2, .int .i64 x.f3, .slice A4 x.f4.length c4, .int .u32 x.f5, .int .u32 x.f6, .int .u32 x.f7, .int .u64 x.f8.f0, .int .u64 x.f8.f1, .int .i64 x.f9, .slice A11 x.f10.length c11, .slice A12 x.f11.length c12] 34) /\ Zz (Bx w wr (w.heap.size + 1) [.int .i64 y.f0, .int .i64 y.f1, .int .i64 y.f2, .int .i64 y.f3, .slice B4 y.f4.length d4, .int .u32 y.f5, .int .u32 y.f6, .int .u32 y.f7, .int .u64 y.f8.f0, .int .u64 y.f8.f1, .int .i64 y.f9, .slice B11 y.f10.length d11, .slice B12 y.f11.length d12] 34)) (fun v115 _ => x.f11.length - (intOf v115).toNat)
     case atStart => exact ⟨0, by omega, rfl, ⟨HR2.out.symm⟩, X2, Y2⟩
     case round =>
      clear q12 X2 Y2
      obtain ⟨j, hj, rfl, hE, X3, Y3⟩ := hrel
      by_cases hjt : j < x.f11.length
      · have htb : j < y.f11.length := by have := H12.out; omega
        obtain ⟨ad1, ea1, hx1⟩ := Kd.at_bool (Kd.C_below G12.out X3.out.hb) (j : Int) (by omega) (by omega)
        obtain ⟨ad2, ea2, hx2⟩ := Kd.at_bool (Kd.C_below E12.out X3.out.hb) (j : Int) (by omega) (by omega)
        subst ea1
        subst ea2
        simp only [rdOf, Int.toNat_natCast] at hx1 hx2
        have hE2 := hE.out
        rw [eqBy_drop boq false x.f11 y.f11 j hjt htb] at hE2
        have HE := Zz.mk hE2
        clear hE2 hE
        generalize x.f11.getD j false = a at *
        generalize y.f11.getD j false = b at *
        have q12 := X3.out.c 12
        have r12 := Y3.out.c 12
        cases hq : boq a b with
        | true =>
          have HE2 := Zz.mk (show eqBy boq (x.f11.drop (j + 1)) (y.f11.drop (j + 1)) = R by have := HE.out; rw [hq, Bool.true_and] at this; exact this)
          unfold boq at hq
          go_wp2
          go_quiet (fail)
          go_wp2
          go_roundw
          case rel => exact ⟨j + 1, by omega, by go_num, HE2, ⟨X3.out.next (pw_below_drewN (Below.refl _ _) nq)⟩, ⟨Y3.out.next (pw_below_drewN (Below.refl _ _) nq)⟩⟩
          case measure => simp [intOf]; omega
        | false =>
          obtain rfl : R = false := by rw [<- HE.out, hq]; rfl
          unfold boq at hq
          go_wp2
          go_quiet (fail)
          go_wp2
          go_ret
          exact ⟨rfl, pw_below_drewN X3.out.hb nq⟩
      · have h12 := H12.out
        obtain rfl : R = true := by rw [<- hE.out, eqBy_end _ _ _ _ (by omega) (by omega)]
        clear h12
        go_wp2
        go_ret
        exact ⟨rfl, X3.out.hb⟩
end Go.Proofs.YtpdinahdcedmkaaGreatDoor.Ext
