import Derived.Test.YtpdinahdcedmkaaGreatDoorK8
import Derived.Laws.CopyOwn
import Derived.Test.YtpdinahdcedmkaaGreatDoorK7
import Derived.Test.YtpdinahdcedmkaaGreatDoorK5
import Derived.Test.YtpdinahdcedmkaaGreatDoorK4
set_option linter.unusedVariables false
set_option linter.unusedSimpArgs false
set_option maxHeartbeats 8000000
set_option maxRecDepth 100000
/- the sets of a level: the program's and the document's. -/
namespace Go.Proofs.YtpdinahdcedmkaaGreatDoor.Ext
open Go.Proofs.YtpdinahdcedmkaaGreatDoor.P
open Go.RowKit YtpdinahdcedmkaaGreatDoorW.PrintWords YtpdinahdcedmkaaGreatDoorW.PrintLast YtpdinahdcedmkaaGreatDoorW.PrintMore Go.Proofs.YtpdinahdcedmkaaGreatDoor.Spec
theorem pA {α} (l : List α) (i : Nat) (a : α) : l.toArray.setIfInBounds i a = (l.set i a).toArray := List.setIfInBounds_toArray ..
theorem pB {α} {a b : α} {l : List α} : (a :: l).set 0 b = b :: l := rfl
theorem pC {α} {a b : α} {i} {l : List α} : (a :: l).set (i + 1) b = a :: l.set i b := rfl
theorem pD {α} {l : List α} {i} (h : i < l.toArray.size) : l.toArray[i] = l[i]'h := rfl
theorem pE {α} {a : α} {i} {l : List α} (h : i + 1 < (a :: l).length) : (a :: l)[i + 1] = l[i]'(Nat.lt_of_succ_lt_succ h) := rfl
theorem pF {α} {a : α} {l : List α} (h : 0 < (a :: l).length) : (a :: l)[0] = a := rfl
abbrev ZL : Array Value := #[.int .u32 0, .bool false, .int .i64 0, .int .i64 0]
abbrev ZO : Array Value := #[.int .u32 0, .bool false, .int .i64 0, .int .i64 0, .int .i64 0, .int .i64 0]
def u32P (c : Int) : Prop := 0 <= c /\ c < 4294967296
theorem r_Sets (a b : Int) (w : World) (ha : u32P a) (hb : u32P b) :
 Calls Tryz.prog 141 #[.agg #[.int .u32 a, .int .u32 b]] w fun e w' => e = .returned (.tuple #[(lms a).1.enc, (ots b).1.enc]) /\ Below w.heap.size w w' := by
 have cL := Lib.hid (fun W => ExtP.r_Lms a W ha.1 ha.2)
 have cO := Lib.hid (fun W => ExtP.r_Ots b W hb.1 hb.2)
 clear ha hb
 generalize lms a = L at *
 generalize ots b = O at *
 obtain ⟨⟨l0, l1, l2, l3⟩, el⟩ := L
 obtain ⟨⟨o0, o1, o2, o3, o4, o5⟩, eo⟩ := O
 simp only [LmsR.enc, OtsR.enc] at cL cO ⊢
 have X0 := Zz.mk (((Bx.new w [.int .u32 a, .int .u32 b] 74).push (.cells ZL 144)).push (.cells ZO 140))
 have Y0 := Zz.mk (((Bx.new w [.int .u32 a, .int .u32 b] 74).on ZL.toList 144).push (.cells ZO 140) |>.at_ (show _ = w.heap.size + 1 by simp))
 have Z0 := Zz.mk (((Bx.new w [.int .u32 a, .int .u32 b] 74).push (.cells ZL 144)).on ZO.toList 140 |>.at_ (show _ = w.heap.size + 1 + 1 by simp))
 have q0 := X0.out.c 0
 have q1 := X0.out.c 1
 go_enter Tryz.func141, Tryz.ntmps141
 go_wp2_with (first
  | (go_at_call 118
     with_reducible refine (cL.out _).mono ?_
     rintro e v ⟨rfl, hb⟩
     have m1 := (Z0.out.next hb).lt
     have L1 := Zz.mk ((X0.out.next hb).on [.int .u32 l0, .bool l1, .int .i64 l2, .int .i64 l3] 144)
     replace X0 := Zz.mk ((X0.out.next hb).push (.cells #[.int .u32 l0, .bool l1, .int .i64 l2, .int .i64 l3] 144))
     replace Y0 := Zz.mk ((Y0.out.next hb).push (.cells #[.int .u32 l0, .bool l1, .int .i64 l2, .int .i64 l3] 144))
     replace Z0 := Zz.mk ((Z0.out.next hb).push (.cells #[.int .u32 l0, .bool l1, .int .i64 l2, .int .i64 l3] 144))
     clear hb
     have q1 := X0.out.c 1)
  | (go_at_call 117
     with_reducible refine (cO.out _).mono ?_
     rintro e v2 ⟨rfl, hb⟩
     have m2 := (L1.out.next hb).lt
     have O1 := Zz.mk ((X0.out.next hb).on [.int .u32 o0, .bool o1, .int .i64 o2, .int .i64 o3, .int .i64 o4, .int .i64 o5] 140)
     replace Y0 := Zz.mk ((Y0.out.next hb).push (.cells #[.int .u32 o0, .bool o1, .int .i64 o2, .int .i64 o3, .int .i64 o4, .int .i64 o5] 140))
     replace Z0 := Zz.mk ((Z0.out.next hb).push (.cells #[.int .u32 o0, .bool o1, .int .i64 o2, .int .i64 o3, .int .i64 o4, .int .i64 o5] 140))
     replace L1 := Zz.mk ((L1.out.next hb).push (.cells #[.int .u32 o0, .bool o1, .int .i64 o2, .int .i64 o3, .int .i64 o4, .int .i64 o5] 140))
     clear hb X0
     skip)
  | fail)
 have n1 : ¬ v2.heap.size = w.heap.size + 1 := by omega
 have n2 : ¬ w.heap.size + 1 = v2.heap.size := by omega
 have n3 : ¬ w.heap.size + 1 + 1 = w.heap.size + 1 := by omega
 have n4 : ¬ w.heap.size + 1 = w.heap.size + 1 + 1 := by omega
 generalize (v2.alloc (.cells #[.int .u32 o0, .bool o1, .int .i64 o2, .int .i64 o3, .int .i64 o4, .int .i64 o5] 140)) = V at *
 clear m1 m2 q0 q1 cL cO
 have hw1 : w.heap.size <= w.heap.size + 1 := by omega
 have hw2 : w.heap.size <= w.heap.size + 1 + 1 := by omega
 have HB := Zz.mk Z0.out.hb
 generalize v.heap.size = lb at *
 generalize v2.heap.size = ob at *
 generalize hzb : w.heap.size + 1 + 1 = zb at *
 generalize hyb : w.heap.size + 1 = yb at *
 clear hzb hyb
 obtain ⟨g0, g1, g2, g3⟩ := cxs4 L1.out
 obtain ⟨h0, h1, h2, h3⟩ := cxs4 O1.out
 have h4 := O1.out.c 4
 have h5 := O1.out.c 5
 have y0 := Y0.out.c 0
 have yz0 := Y0.out.z 0
 have y1 := Y0.out.c 1
 have yz1 := Y0.out.z 1
 have y2 := Y0.out.c 2
 have yz2 := Y0.out.z 2
 have y3 := Y0.out.c 3
 have yz3 := Y0.out.z 3
 have z0 := Z0.out.c 0
 have zz0 := Z0.out.z 0
 have z1 := Z0.out.c 1
 have zz1 := Z0.out.z 1
 have z2 := Z0.out.c 2
 have zz2 := Z0.out.z 2
 have z3 := Z0.out.c 3
 have zz3 := Z0.out.z 3
 have z4 := Z0.out.c 4
 have zz4 := Z0.out.z 4
 have z5 := Z0.out.c 5
 have zz5 := Z0.out.z 5
 go_region
 go_wp2
 refine bodyPost_ret (v := .tuple #[.agg #[.int .u32 l0, .bool l1, .int .i64 l2, .int .i64 l3], .agg #[.int .u32 o0, .bool o1, .int .i64 o2, .int .i64 o3, .int .i64 o4, .int .i64 o5]]) ?_ rfl ⟨rfl, ?_⟩
 · simp [results, Tryz.results141, go_sem, *]
 · exact ((((((((((HB.out.setCell (p := ⟨_, 0, none⟩) hw1 _).setCell (p := ⟨_, 1, none⟩) hw1 _).setCell (p := ⟨_, 2, none⟩) hw1 _).setCell (p := ⟨_, 3, none⟩) hw1 _).setCell (p := ⟨_, 0, none⟩) hw2 _).setCell (p := ⟨_, 1, none⟩) hw2 _).setCell (p := ⟨_, 2, none⟩) hw2 _).setCell (p := ⟨_, 3, none⟩) hw2 _).setCell (p := ⟨_, 4, none⟩) hw2 _).setCell (p := ⟨_, 5, none⟩) hw2 _).drew
theorem lms_code {a : Int} (h : u32P a) : u32P (lms a).1.code := by
 unfold lms
 split
 · exact h
 · exact ⟨by decide, by decide⟩
theorem ots_code {a : Int} (h : u32P a) : u32P (ots a).1.code := by
 unfold ots
 split
 · exact h
 · exact ⟨by decide, by decide⟩
def lvFit (a b : Int) : Bool := ExtP.fitS (lms a).1 (ots b).1
theorem r_fits (a b : Int) (w : World) (ha : u32P a) (hb : u32P b) :
 Calls Tryz.prog 142 #[.agg #[.int .u32 a, .int .u32 b]] w (BoolB (lvFit a b) w) := by
 have cS := Lib.hid (fun W => r_Sets a b W ha hb)
 have cF := Lib.hid (fun W => ExtP.r_Fit (lms a).1 (ots b).1 W (lms_code ha).1 (lms_code ha).2 (ots_code hb).1 (ots_code hb).2)
 clear ha hb
 unfold lvFit
 generalize (lms a).1 = L at *
 generalize (ots b).1 = O at *
 generalize ExtP.fitS L O = F at *
 obtain ⟨l0, l1, l2, l3⟩ := L
 obtain ⟨o0, o1, o2, o3, o4, o5⟩ := O
 simp only [LmsR.enc, OtsR.enc] at cS cF ⊢
 have X0 := Zz.mk (Bx.new w [.int .u32 a, .int .u32 b] 74)
 have q0 := X0.out.c 0
 have q1 := X0.out.c 1
 go_enter Tryz.func142, Tryz.ntmps142
 go_wp2_with (first
  | (go_at_call 141
     with_reducible refine (cS.out _).mono ?_
     rintro e v ⟨rfl, hb⟩
     replace X0 := Zz.mk (((X0.out.next hb).push (.cells #[.int .u32 l0, .bool l1, .int .i64 l2, .int .i64 l3] 144)).push (.cells #[.int .u32 o0, .bool o1, .int .i64 o2, .int .i64 o3, .int .i64 o4, .int .i64 o5] 140))
     clear hb)
  | (go_at_call 169
     with_reducible refine (cF.out _).mono ?_
     rintro e v2 ⟨rfl, hb⟩
     replace X0 := Zz.mk (X0.out.next hb)
     clear hb)
  | fail)
 go_ret
 exact ⟨rfl, X0.out.hb⟩
theorem keepLO {w W : World} {lb ob : Nat} {l0 l2 l3 o0 o2 o3 o4 o5 : Int} {l1 o1 : Bool} (h1 : Bx w W lb [.int .u32 l0, .bool l1, .int .i64 l2, .int .i64 l3] 144) (h2 : Bx w W ob [.int .u32 o0, .bool o1, .int .i64 o2, .int .i64 o3, .int .i64 o4, .int .i64 o5] 140) : W.cell? ⟨lb, 0, none⟩ = some (.int .u32 l0) /\ W.cell? ⟨lb, 1, none⟩ = some (.bool l1) /\ W.cell? ⟨lb, 2, none⟩ = some (.int .i64 l2) /\ W.cell? ⟨lb, 3, none⟩ = some (.int .i64 l3) /\ W.cell? ⟨ob, 0, none⟩ = some (.int .u32 o0) /\ W.cell? ⟨ob, 1, none⟩ = some (.bool o1) /\ W.cell? ⟨ob, 2, none⟩ = some (.int .i64 o2) /\ W.cell? ⟨ob, 3, none⟩ = some (.int .i64 o3) /\ W.cell? ⟨ob, 4, none⟩ = some (.int .i64 o4) /\ W.cell? ⟨ob, 5, none⟩ = some (.int .i64 o5) :=
 ⟨h1.c 0, h1.c 1, h1.c 2, h1.c 3, h2.c 0, h2.c 1, h2.c 2, h2.c 3, h2.c 4, h2.c 5⟩
theorem c_sets (a b : Int) (w : World) (ha : u32P a) (hb : u32P b) :
 Calls Tryz.prog 134 #[.agg #[.int .u32 a, .int .u32 b]] w fun e w' => e = .returned (.tuple #[(lms a).1.enc, (ots b).1.enc, .bool ((lms a).2 == 0 && ((ots b).2 == 0 && lvFit a b))]) /\ Below w.heap.size w w' := by
 have cL := Lib.hid (fun W => ExtP.c_Lms a W ha.1 ha.2)
 have cO := Lib.hid (fun W => ExtP.c_Ots b W hb.1)
 have cF := Lib.hid (fun W => ExtP.c_Fit (lms a).1 (ots b).1 W (lms_code ha).1 (lms_code ha).2 (ots_code hb).1 (ots_code hb).2)
 clear ha hb
 unfold lvFit
 generalize hF : ExtP.fitS (lms a).1 (ots b).1 = F at *
 clear hF
 generalize lms a = L at *
 generalize ots b = O at *
 obtain ⟨⟨l0, l1, l2, l3⟩, el⟩ := L
 obtain ⟨⟨o0, o1, o2, o3, o4, o5⟩, eo⟩ := O
 simp only [LmsR.enc, OtsR.enc] at cL cO cF ⊢
 generalize hR : (el == 0 && (eo == 0 && F)) = R
 have HR := Lib.hid hR
 clear hR
 have X0 := Zz.mk (((Bx.new w [.int .u32 a, .int .u32 b] 74).push (.cells ZL 144)).push (.cells ZO 140))
 have Y0 := Zz.mk (((Bx.new w [.int .u32 a, .int .u32 b] 74).on ZL.toList 144).push (.cells ZO 140) |>.at_ (show _ = w.heap.size + 1 by simp))
 have Z0 := Zz.mk (((Bx.new w [.int .u32 a, .int .u32 b] 74).push (.cells ZL 144)).on ZO.toList 140 |>.at_ (show _ = w.heap.size + 1 + 1 by simp))
 have q0 := X0.out.c 0
 have q1 := X0.out.c 1
 go_enter Tryz.func134, Tryz.ntmps134
 go_wp2_with (first
  | (go_at_call 163
     with_reducible refine (cL.out _).mono ?_
     rintro e v ⟨rfl, hb⟩
     have m1 := (Z0.out.next hb).lt
     have L1 := Zz.mk ((X0.out.next hb).on [.int .u32 l0, .bool l1, .int .i64 l2, .int .i64 l3] 144)
     replace X0 := Zz.mk ((X0.out.next hb).push (.cells #[.int .u32 l0, .bool l1, .int .i64 l2, .int .i64 l3] 144))
     replace Y0 := Zz.mk ((Y0.out.next hb).push (.cells #[.int .u32 l0, .bool l1, .int .i64 l2, .int .i64 l3] 144))
     replace Z0 := Zz.mk ((Z0.out.next hb).push (.cells #[.int .u32 l0, .bool l1, .int .i64 l2, .int .i64 l3] 144))
     clear hb
     have q1 := X0.out.c 1)
  | (go_at_call 164
     with_reducible refine (cO.out _).mono ?_
     rintro e v2 ⟨rfl, hb⟩
     have m2 := (L1.out.next hb).lt
     have O1 := Zz.mk ((X0.out.next hb).on [.int .u32 o0, .bool o1, .int .i64 o2, .int .i64 o3, .int .i64 o4, .int .i64 o5] 140)
     replace Y0 := Zz.mk ((Y0.out.next hb).push (.cells #[.int .u32 o0, .bool o1, .int .i64 o2, .int .i64 o3, .int .i64 o4, .int .i64 o5] 140))
     replace Z0 := Zz.mk ((Z0.out.next hb).push (.cells #[.int .u32 o0, .bool o1, .int .i64 o2, .int .i64 o3, .int .i64 o4, .int .i64 o5] 140))
     replace L1 := Zz.mk ((L1.out.next hb).push (.cells #[.int .u32 o0, .bool o1, .int .i64 o2, .int .i64 o3, .int .i64 o4, .int .i64 o5] 140))
     clear hb X0
     skip)
  | fail)
 have n1 : ¬ v2.heap.size = w.heap.size + 1 := by omega
 have n2 : ¬ w.heap.size + 1 = v2.heap.size := by omega
 have n3 : ¬ w.heap.size + 1 + 1 = w.heap.size + 1 := by omega
 have n4 : ¬ w.heap.size + 1 = w.heap.size + 1 + 1 := by omega
 generalize (v2.alloc (.cells #[.int .u32 o0, .bool o1, .int .i64 o2, .int .i64 o3, .int .i64 o4, .int .i64 o5] 140)) = V at *
 have n5x := m1
 have hw1 : w.heap.size <= w.heap.size + 1 := by omega
 have hw2 : w.heap.size <= w.heap.size + 1 + 1 := by omega
 have n5 : ¬ v.heap.size = w.heap.size + 1 := by omega
 have n6 : ¬ v.heap.size = w.heap.size + 1 + 1 := by omega
 have n7 : ¬ v2.heap.size = w.heap.size + 1 + 1 := by omega
 generalize v.heap.size = lb at *
 generalize v2.heap.size = ob at *
 generalize hzb : w.heap.size + 1 + 1 = zb at *
 generalize hyb : w.heap.size + 1 = yb at *
 clear hzb hyb m1 m2 q0 q1 cL cO n5x
 by_cases he : el = 0 /\ eo = 0
 · obtain ⟨rfl, rfl⟩ := he
   obtain rfl : F = R := by rw [<- HR.out]; rfl
   clear HR
   have k1 : ((0 : Int) == 0) = true := rfl
   have L1d := Zz.mk (L1.out.next (Below.drew (Below.refl V.heap.size V)))
   have O1d := Zz.mk (O1.out.next (Below.drew (Below.refl V.heap.size V)))
   have Y0d := Zz.mk (Y0.out.next (Below.drew (Below.refl V.heap.size V)))
   have Z0d := Zz.mk (Z0.out.next (Below.drew (Below.refl V.heap.size V)))
   refine wp_region_held_drew (S := (fun W => W.cell? ⟨lb, 0, none⟩ = some (.int .u32 l0) /\ W.cell? ⟨lb, 1, none⟩ = some (.bool l1) /\ W.cell? ⟨lb, 2, none⟩ = some (.int .i64 l2) /\ W.cell? ⟨lb, 3, none⟩ = some (.int .i64 l3) /\ W.cell? ⟨ob, 0, none⟩ = some (.int .u32 o0) /\ W.cell? ⟨ob, 1, none⟩ = some (.bool o1) /\ W.cell? ⟨ob, 2, none⟩ = some (.int .i64 o2) /\ W.cell? ⟨ob, 3, none⟩ = some (.int .i64 o3) /\ W.cell? ⟨ob, 4, none⟩ = some (.int .i64 o4) /\ W.cell? ⟨ob, 5, none⟩ = some (.int .i64 o5))) (by kernel_rfl) ?_ (fun hHeld => ?_)
   · try dsimp only
     exact keepLO L1d.out O1d.out
   refine wpAnyH_take (i := 2) (v := ?_) rfl (by kernel_rfl) (by kernel_rfl) (by kernel_rfl) (fun _ _ _ h => h) (Or.inl ⟨by rfl, ?_⟩) (by assumption) ?_
   rotate_left
   · intro w hSw
     try dsimp only at hSw
     go_simp
     try with_reducible rfl
   try simp only [Act.put,pA,pB,pC,pD,pE,pF]
   refine wpAnyH_take (i := 3) (v := ?_) rfl (by kernel_rfl) (by kernel_rfl) (by kernel_rfl) (fun _ _ _ h => h) (Or.inl ⟨by rfl, ?_⟩) (by assumption) ?_
   rotate_left
   · intro w hSw
     try dsimp only at hSw
     go_simp
     try with_reducible rfl
   try simp only [Act.put,pA,pB,pC,pD,pE,pF]
   refine wpAnyH_take (i := 4) (v := ?_) rfl (by kernel_rfl) (by kernel_rfl) (by kernel_rfl) (fun _ _ _ h => h) (Or.inl ⟨by rfl, ?_⟩) (by assumption) ?_
   rotate_left
   · intro w hSw
     try dsimp only at hSw
     go_simp
     try with_reducible rfl
   try simp only [Act.put,pA,pB,pC,pD,pE,pF]
   refine wpAnyH_take (i := 5) (v := ?_) rfl (by kernel_rfl) (by kernel_rfl) (by kernel_rfl) (fun _ _ _ h => h) (Or.inl ⟨by rfl, ?_⟩) (by assumption) ?_
   rotate_left
   · intro w hSw
     try dsimp only at hSw
     go_simp
     try with_reducible rfl
   try simp only [Act.put,pA,pB,pC,pD,pE,pF]
   refine wpAnyH_take (i := 6) (v := ?_) rfl (by kernel_rfl) (by kernel_rfl) (by kernel_rfl) (fun _ _ _ h => h) (Or.inl ⟨by rfl, ?_⟩) (by assumption) ?_
   rotate_left
   · intro w hSw
     try dsimp only at hSw
     go_simp
     try with_reducible rfl
   try simp only [Act.put,pA,pB,pC,pD,pE,pF]
   refine wpAnyH_take (i := 7) (v := ?_) rfl (by kernel_rfl) (by kernel_rfl) (by kernel_rfl) (fun _ _ _ h => h) (Or.inl ⟨by rfl, ?_⟩) (by assumption) ?_
   rotate_left
   · intro w hSw
     try dsimp only at hSw
     go_simp
     try with_reducible rfl
   try simp only [Act.put,pA,pB,pC,pD,pE,pF]
   refine wpAnyH_take (i := 8) (v := ?_) rfl (by kernel_rfl) (by kernel_rfl) (by kernel_rfl) (fun _ _ _ h => h) (Or.inl ⟨by rfl, ?_⟩) (by assumption) ?_
   rotate_left
   · intro w hSw
     try dsimp only at hSw
     go_simp
     try with_reducible rfl
   try simp only [Act.put,pA,pB,pC,pD,pE,pF]
   refine wpAnyH_take (i := 0) (v := ?_) rfl (by kernel_rfl) (by kernel_rfl) (by kernel_rfl) (fun _ _ _ h => h) (Or.inl ⟨by rfl, ?_⟩) (by assumption) ?_
   rotate_left
   · intro w hSw
     try dsimp only at hSw
     go_simp
     try with_reducible rfl
   try simp only [Act.put,pA,pB,pC,pD,pE,pF]
   refine wpAnyH_take (i := 1) (v := ?_) rfl (by kernel_rfl) (by kernel_rfl) (by kernel_rfl) (fun _ _ _ h => h) (Or.inl ⟨by rfl, ?_⟩) (by assumption) ?_
   rotate_left
   · intro w hSw
     try dsimp only at hSw
     go_simp
     try with_reducible rfl
   try simp only [Act.put,pA,pB,pC,pD,pE,pF]
   refine wpAnyH_take (i := 9) (v := ?_) rfl (by kernel_rfl) (by kernel_rfl) (by kernel_rfl) (fun _ _ _ h => h) (Or.inl ⟨by rfl, ?_⟩) (by assumption) ?_
   rotate_left
   · intro w hSw
     try dsimp only at hSw
     go_simp
     try with_reducible rfl
   try simp only [Act.put,pA,pB,pC,pD,pE,pF]
   refine wpAnyH_take (i := 10) (v := ?_) rfl (by kernel_rfl) (by kernel_rfl) (by kernel_rfl) (fun _ _ _ h => h) (Or.inl ⟨by rfl, ?_⟩) (by assumption) ?_
   rotate_left
   · intro w hSw
     try dsimp only at hSw
     go_simp
     try with_reducible rfl
   try simp only [Act.put,pA,pB,pC,pD,pE,pF]
   refine wpAnyH_ready (rs := [11]) (by kernel_rfl) (by simp) ?_
   refine AllReadyH.cons rfl (fun K hK => ?_) AllReadyH.nil
   go_simp
   go_at_call 165
   with_reducible refine (cF.out _).mono ?_
   rintro e v3 ⟨rfl, hbz⟩
   have Y1 := Zz.mk (Y0d.out.next hbz)
   have Z1 := Zz.mk (Z0d.out.next hbz)
   obtain ⟨y0, y1, y2, y3⟩ := cxs4 Y1.out
   have yz0 := Y1.out.z 0
   have yz1 := Y1.out.z 1
   have yz2 := Y1.out.z 2
   have yz3 := Y1.out.z 3
   obtain ⟨z0, z1, z2, z3⟩ := cxs4 Z1.out
   have z4 := Z1.out.c 4
   have z5 := Z1.out.c 5
   have zz0 := Z1.out.z 0
   have zz1 := Z1.out.z 1
   have zz2 := Z1.out.z 2
   have zz3 := Z1.out.z 3
   have zz4 := Z1.out.z 4
   have zz5 := Z1.out.z 5
   try go_wp2_with fail
   refine hK.out _ _ ?_ ?_
   · try dsimp only
     exact keepLO (L1d.out.next hbz) (O1d.out.next hbz)
   clear hHeld hbz hK K
   intro hHeld
   try simp only [Act.put,pA,pB,pC,pD,pE,pF]
   refine wpAnyH_take (i := 12) (v := ?_) rfl (by kernel_rfl) (by kernel_rfl) (by kernel_rfl) (fun _ _ _ h => h) (Or.inl ⟨by rfl, ?_⟩) (by assumption) ?_
   rotate_left
   · intro w hSw
     try dsimp only at hSw
     go_simp
     try with_reducible rfl
   try simp only [Act.put,pA,pB,pC,pD,pE,pF]
   refine wpAnyH_ready (rs := [13]) (by kernel_rfl) (by simp) ?_
   refine AllReadyH.cons rfl (fun K hK => ?_) AllReadyH.nil
   go_simp
   refine hK.out _ _ ?_ ?_
   · try dsimp only
     refine ⟨?_, ?_, ?_, ?_, ?_, ?_, ?_, ?_, ?_, ?_⟩ <;> (go_simp; done)
   clear hHeld hK K
   intro hHeld
   try simp only [Act.put,pA,pB,pC,pD,pE,pF]
   refine wpAnyH_ready (rs := [14]) (by kernel_rfl) (by simp) ?_
   refine AllReadyH.cons rfl (fun K hK => ?_) AllReadyH.nil
   go_simp
   refine hK.out _ _ ?_ ?_
   · try dsimp only
     refine ⟨?_, ?_, ?_, ?_, ?_, ?_, ?_, ?_, ?_, ?_⟩ <;> (go_simp; done)
   clear hHeld hK K
   intro hHeld
   try simp only [Act.put,pA,pB,pC,pD,pE,pF]
   refine wpAnyH_take (i := 15) (v := ?_) rfl (by kernel_rfl) (by kernel_rfl) (by kernel_rfl) (fun _ _ _ h => h) (Or.inl ⟨by rfl, ?_⟩) (by assumption) ?_
   rotate_left
   · intro w hSw
     try dsimp only at hSw
     go_simp
     try with_reducible rfl
   try simp only [Act.put,pA,pB,pC,pD,pE,pF]
   refine wpAnyH_done (by kernel_rfl) ?_ _
   go_wp2
   refine bodyPost_ret (v := .tuple #[.agg #[.int .u32 l0, .bool l1, .int .i64 l2, .int .i64 l3], .agg #[.int .u32 o0, .bool o1, .int .i64 o2, .int .i64 o3, .int .i64 o4, .int .i64 o5], .bool F]) ?_ rfl ⟨rfl, ?_⟩
   · simp [results, Tryz.results134, go_sem, *]
   · exact ((((((((((Y1.out.hb).setCell (p := ⟨_, 0, none⟩) hw1 _).setCell (p := ⟨_, 1, none⟩) hw1 _).setCell (p := ⟨_, 2, none⟩) hw1 _).setCell (p := ⟨_, 3, none⟩) hw1 _).setCell (p := ⟨_, 0, none⟩) hw2 _).setCell (p := ⟨_, 1, none⟩) hw2 _).setCell (p := ⟨_, 2, none⟩) hw2 _).setCell (p := ⟨_, 3, none⟩) hw2 _).setCell (p := ⟨_, 4, none⟩) hw2 _).setCell (p := ⟨_, 5, none⟩) hw2 _
 · have ke : (el == 0 && (eo == 0 && F)) = false := by
    by_cases h1 : el = 0
    · have h2 : ¬ eo = 0 := fun h => he ⟨h1, h⟩
      rw [beq_eq_false_iff_ne.2 h2]; simp
    · rw [beq_eq_false_iff_ne.2 h1]; rfl
   obtain rfl : R = false := by rw [<- HR.out]; exact ke
   clear ke HR
   obtain ⟨g0, g1, g2, g3⟩ := cxs4 L1.out
   obtain ⟨h0, h1, h2, h3⟩ := cxs4 O1.out
   have h4 := O1.out.c 4
   have h5 := O1.out.c 5
   have y0 := Y0.out.c 0
   have yz0 := Y0.out.z 0
   have y1 := Y0.out.c 1
   have yz1 := Y0.out.z 1
   have y2 := Y0.out.c 2
   have yz2 := Y0.out.z 2
   have y3 := Y0.out.c 3
   have yz3 := Y0.out.z 3
   have z0 := Z0.out.c 0
   have zz0 := Z0.out.z 0
   have z1 := Z0.out.c 1
   have zz1 := Z0.out.z 1
   have z2 := Z0.out.c 2
   have zz2 := Z0.out.z 2
   have z3 := Z0.out.c 3
   have zz3 := Z0.out.z 3
   have z4 := Z0.out.c 4
   have zz4 := Z0.out.z 4
   have z5 := Z0.out.c 5
   have zz5 := Z0.out.z 5
   by_cases h1 : el = 0
   · have k1 : (el == 0) = true := beq_iff_eq.2 h1
     have k2 : (eo == 0) = false := beq_eq_false_iff_ne.2 (fun h => he ⟨h1, h⟩)
     clear h1 he
     go_region
     go_wp2
     refine bodyPost_ret (v := .tuple #[.agg #[.int .u32 l0, .bool l1, .int .i64 l2, .int .i64 l3], .agg #[.int .u32 o0, .bool o1, .int .i64 o2, .int .i64 o3, .int .i64 o4, .int .i64 o5], .bool false]) ?_ rfl ⟨rfl, ?_⟩
     · simp [results, Tryz.results134, go_sem, *]
     · exact (((((((((((Y0.out.hb).setCell (p := ⟨_, 0, none⟩) hw1 _).setCell (p := ⟨_, 1, none⟩) hw1 _).setCell (p := ⟨_, 2, none⟩) hw1 _).setCell (p := ⟨_, 3, none⟩) hw1 _).setCell (p := ⟨_, 0, none⟩) hw2 _).setCell (p := ⟨_, 1, none⟩) hw2 _).setCell (p := ⟨_, 2, none⟩) hw2 _).setCell (p := ⟨_, 3, none⟩) hw2 _).setCell (p := ⟨_, 4, none⟩) hw2 _).setCell (p := ⟨_, 5, none⟩) hw2 _).drew
   · have k1 : (el == 0) = false := beq_eq_false_iff_ne.2 h1
     clear h1 he
     go_region
     go_wp2
     refine bodyPost_ret (v := .tuple #[.agg #[.int .u32 l0, .bool l1, .int .i64 l2, .int .i64 l3], .agg #[.int .u32 o0, .bool o1, .int .i64 o2, .int .i64 o3, .int .i64 o4, .int .i64 o5], .bool false]) ?_ rfl ⟨rfl, ?_⟩
     · simp [results, Tryz.results134, go_sem, *]
     · exact (((((((((((Y0.out.hb).setCell (p := ⟨_, 0, none⟩) hw1 _).setCell (p := ⟨_, 1, none⟩) hw1 _).setCell (p := ⟨_, 2, none⟩) hw1 _).setCell (p := ⟨_, 3, none⟩) hw1 _).setCell (p := ⟨_, 0, none⟩) hw2 _).setCell (p := ⟨_, 1, none⟩) hw2 _).setCell (p := ⟨_, 2, none⟩) hw2 _).setCell (p := ⟨_, 3, none⟩) hw2 _).setCell (p := ⟨_, 4, none⟩) hw2 _).setCell (p := ⟨_, 5, none⟩) hw2 _).drew
abbrev Lv := S74
def lvOk (F : LmsR) (v : Lv) : Bool := lvFit v.f0 v.f1 && ((lms v.f0).1.shake == F.shake && (lms v.f0).1.n == F.n)
def sumH (l : List Lv) : Int := (l.map fun v => (lms v.f0).1.h).sum
def firstL (l : List Lv) : LmsR := (lms (l.getD 0 z74).f0).1
def hssS (l : List Lv) : Bool := decide (1 <= l.length) && (decide (l.length <= 8) && (l.all (lvOk (firstL l)) && decide (sumH l <= 60)))
theorem lms_h (a : Int) : 0 <= (lms a).1.h /\ (lms a).1.h <= 25 := by
 unfold lms
 split
 · rename_i f h e
   unfold lmsFam ownFam at e
   split at e
   · injection e with e; injection e with _ e; subst e; show 0 <= 5 * (a % 5 + 1) /\ 5 * (a % 5 + 1) <= 25; omega
   · split at e
     · injection e with e; injection e with _ e; subst e; show 0 <= (a - 4026531840) % 16 /\ (a - 4026531840) % 16 <= 25; omega
     · cases e
 · exact ⟨by decide, by decide⟩
theorem sumH_snoc (l : List Lv) (v : Lv) : sumH (l ++ [v]) = sumH l + (lms v.f0).1.h := by unfold sumH; simp
theorem sumH_bd (l : List Lv) : 0 <= sumH l /\ sumH l <= 25 * l.length := by
 induction l with
 | nil => exact ⟨by decide, by decide⟩
 | cons v t ih =>
   have h := lms_h v.f0
   unfold sumH at ih ⊢
   simp only [List.map_cons, List.sum_cons, List.length_cons]
   omega
theorem take_snoc74 (l : List Lv) (i : Nat) (h : i < l.length) : l.take (i + 1) = l.take i ++ [l.getD i z74] := by
 rw [List.take_succ_eq_append_getElem h, List.getD_eq_getElem?_getD, List.getElem?_eq_getElem h]; rfl
/-- every level's numbers are such of 32 bits -/
def lvBd (l : List Lv) : Prop := ∀ i, u32P (l.getD i z74).f0 /\ u32P (l.getD i z74).f1
theorem all_take {l : List Lv} {p : Lv -> Bool} (i : Nat) (h : i < l.length) (ht : (l.take i).all p = true) (hp : p (l.getD i z74) = true) : (l.take (i + 1)).all p = true := by
 rw [take_snoc74 l i h, List.all_append, ht, List.all_cons, List.all_nil, hp]; rfl
theorem add0 (ad : Addr) (k : Nat) : ad.add (0 * k) = ad := by unfold Addr.add; simp
theorem all_no {l : List Lv} {p : Lv -> Bool} (i : Nat) (h : i < l.length) (hp : p (l.getD i z74) = false) : l.all p = false := by
 rw [List.all_eq_false]
 rw [List.getD_eq_getElem?_getD, List.getElem?_eq_getElem h] at hp
 exact ⟨l[i], List.getElem_mem h, by simpa using hp⟩
theorem r_hssMay (A : Option Addr) (c : Nat) (l : List Lv) (w : World) (hC : k74.C w A l.length l) (hc : l.length <= c) (hv : lvBd l) :
 Calls Tryz.prog 113 #[.slice A l.length c] w (BoolB (hssS l) w) := by
 have hn : l.length <= 9223372036854775807 := hC.2.1
 obtain ⟨R, hR⟩ : ∃ R, hssS l = R := ⟨_, rfl⟩
 rw [hR]
 by_cases h1 : 1 <= l.length
 · by_cases h8 : l.length <= 8
   · have t1 : ¬ ((l.length : Int) < 1) := by omega
     have t8 : ¬ (8 < (l.length : Int)) := by omega
     unfold hssS at hR
     rw [decide_eq_true h1, decide_eq_true h8, Bool.true_and, Bool.true_and] at hR
     have HR := Lib.hid hR
     clear hR
     have HC := Zz.mk hC
     clear hC
     obtain ⟨ad, e0, x0, x1⟩ := at_T74 HC.out 0 (by omega) (by omega)
     cases e0
     have cS := Lib.hid (fun i W => r_Sets (l.getD i z74).f0 (l.getD i z74).f1 W (hv i).1 (hv i).2)
     have cF := Lib.hid (fun i W => r_fits (l.getD i z74).f0 (l.getD i z74).f1 W (hv i).1 (hv i).2)
     clear hv
     simp only [rd_T74, Int.toNat_zero] at x0 x1
     rw [add0] at x0
     rw [add0] at x1
     have c0 := cS.out 0
     have hF : firstL l = (lms (l.getD 0 z74).f0).1 := rfl
     generalize l.getD 0 z74 = V0 at c0 x0 x1 hF
     generalize (lms V0.f0).1 = F at c0 hF
     generalize (ots V0.f1).1 = G at c0
     obtain ⟨f0, f1, f2, f3⟩ := F
     obtain ⟨o0, o1, o2, o3, o4, o5⟩ := G
     simp only [LmsR.enc, OtsR.enc] at c0
     have C0 := Lib.hid c0
     have HF := Lib.hid hF
     clear c0 hF
     go_enter Tryz.func113, Tryz.ntmps113
     go_wp2_with (first
      | (go_at_call 141
         with_reducible refine (C0.out _).mono ?_
         rintro e v ⟨rfl, hb⟩
         have F0 := Zz.mk ((⟨heap_alloc_new v _, hb.alloc hb.size _⟩ : Bx w (v.alloc (.cells #[.int .u32 f0, .bool f1, .int .i64 f2, .int .i64 f3] 144)) v.heap.size [.int .u32 f0, .bool f1, .int .i64 f2, .int .i64 f3] 144).push (.cells #[.int .u32 o0, .bool o1, .int .i64 o2, .int .i64 o3, .int .i64 o4, .int .i64 o5] 140))
         clear hb)
      | fail)
     generalize v.heap.size = fb at *
     go_loopw [5, 27] (fun v5 v27 wr => ∃ i : Nat, v27 = .int .i64 i /\ i <= l.length /\ v5 = .int .i64 (sumH (l.take i)) /\ Zz ((l.take i).all (lvOk ⟨f0, f1, f2, f3⟩) = true) /\ Zz (Bx w wr fb [.int .u32 f0, .bool f1, .int .i64 f2, .int .i64 f3] 144)) (fun _ v27 _ => l.length - (intOf v27).toNat)
     case atStart => exact ⟨0, rfl, by omega, rfl, ⟨rfl⟩, F0⟩
     case round =>
      obtain ⟨i, rfl, hi, rfl, HA, HX⟩ := hrel
      clear F0
      have hbd := sumH_bd (l.take i)
      have hln : (l.take i).length = i := by rw [List.length_take]; omega
      rw [hln] at hbd
      clear hln
      obtain ⟨hbd0, hbd1⟩ := hbd
      by_cases hlt : i < l.length
      · obtain ⟨ad', e0, y0, y1⟩ := at_T74 HC.out (i : Int) (by omega) (by omega)
        cases e0
        simp only [rd_T74, Int.toNat_natCast] at y0 y1
        have y0' := (HX.out.hb.cell (World.block_lt_of_cell? w _ y0)).trans y0
        have y1' := (HX.out.hb.cell (World.block_lt_of_cell? w _ y1)).trans y1
        clear y0 y1 x0 x1
        have hsn := sumH_snoc (l.take i) (l.getD i z74)
        rw [<- take_snoc74 l i hlt] at hsn
        have HS := Lib.hid hsn
        have HT := Lib.hid (fun h => all_take (p := lvOk ⟨f0, f1, f2, f3⟩) i hlt HA.out h)
        have HN := Lib.hid (fun h => all_no (l := l) (p := lvOk ⟨f0, f1, f2, f3⟩) i hlt h)
        have hh := lms_h (l.getD i z74).f0
        have c1 := cS.out i
        have c2 := cF.out i
        clear hsn HA C0
        generalize l.getD i z74 = V at *
        unfold lvOk at HT HN
        generalize lvFit V.f0 V.f1 = fit at *
        generalize (lms V.f0).1 = L at *
        generalize (ots V.f1).1 = O at *
        obtain ⟨l0, l1, l2, l3⟩ := L
        obtain ⟨o0, o1, o2, o3, o4, o5⟩ := O
        simp only [LmsR.enc, OtsR.enc] at c1 hh
        obtain ⟨hh0, hh1⟩ := hh
        have C1 := Lib.hid c1
        have C2 := Lib.hid c2
        clear c1 c2
        have V0 := Zz.mk (HX.out.on [.int .u32 V.f0, .int .u32 V.f1] 74)
        have F1 := Zz.mk (HX.out.push (.cells #[.int .u32 V.f0, .int .u32 V.f1] 74))
        have v0 := V0.out.c 0
        have v1 := V0.out.c 1
        go_wp2_with (first
         | (go_at_call 141
            with_reducible refine (C1.out _).mono ?_
            rintro e v2 ⟨rfl, hb⟩
            have L0 := Zz.mk (((F1.out.next hb).on [.int .u32 l0, .bool l1, .int .i64 l2, .int .i64 l3] 144).push (.cells #[.int .u32 o0, .bool o1, .int .i64 o2, .int .i64 o3, .int .i64 o4, .int .i64 o5] 140))
            replace V0 := Zz.mk (((V0.out.next hb).push (.cells #[.int .u32 l0, .bool l1, .int .i64 l2, .int .i64 l3] 144)).push (.cells #[.int .u32 o0, .bool o1, .int .i64 o2, .int .i64 o3, .int .i64 o4, .int .i64 o5] 140))
            replace F1 := Zz.mk (((F1.out.next hb).push (.cells #[.int .u32 l0, .bool l1, .int .i64 l2, .int .i64 l3] 144)).push (.cells #[.int .u32 o0, .bool o1, .int .i64 o2, .int .i64 o3, .int .i64 o4, .int .i64 o5] 140))
            clear hb
            have v0 := V0.out.c 0
            have v1 := V0.out.c 1)
         | (go_at_call 142
            with_reducible refine (C2.out _).mono ?_
            rintro e v3 ⟨rfl, hb⟩
            replace L0 := Zz.mk (L0.out.next hb)
            replace F1 := Zz.mk (F1.out.next hb)
            clear hb
            have g1 := L0.out.c 1
            have g2 := L0.out.c 2
            have g3 := L0.out.c 3
            have k1 := F1.out.c 1
            have k2 := F1.out.c 2)
         | fail)
        rotate_left
        · go_roundw
          case rel => exact ⟨i + 1, by go_num, by omega, by rw [HS.out], ⟨HT.out (by simp_all)⟩, F1⟩
          case measure => simp [intOf]; omega
        all_goals
         go_ret
         refine boolB_i ?_ F1.out.hb
         rw [<- HR.out, HF.out, show l.all (lvOk ⟨f0, f1, f2, f3⟩) = false from HN.out (by simp_all)]
         rfl
      · obtain rfl : i = l.length := by omega
        have e1 := List.take_of_length_le (Nat.le_refl l.length)
        have hA := HA.out
        rw [e1] at hA hbd0 hbd1
        rw [e1]
        clear HA C0
        go_wp2
        go_ret
        refine boolB_i ?_ HX.out.hb
        rw [<- HR.out, HF.out, hA]
        simp
   · have t8 : 8 < (l.length : Int) := by omega
     obtain rfl : R = false := by rw [<- hR]; unfold hssS; rw [decide_eq_false h8]; simp
     clear hR
     go_enter Tryz.func113, Tryz.ntmps113
     go_wp2
     all_goals (go_ret; exact ⟨rfl, Below.refl _ _⟩)
 · have t1 : (l.length : Int) < 1 := by omega
   obtain rfl : R = false := by rw [<- hR]; unfold hssS; rw [decide_eq_false h1]; rfl
   clear hR
   go_enter Tryz.func113, Tryz.ntmps113
   go_wp2
   all_goals (go_ret; exact ⟨rfl, Below.refl _ _⟩)
theorem fit_ok (a b : Int) : ((lms a).2 == 0 && ((ots b).2 == 0 && lvFit a b)) = lvFit a b := by
 have hl : (lms a).2 ≠ 0 -> lvFit a b = false := fun h => by
  have e : lms a = (LmsR.zero, 60) := by
   unfold lms at h ⊢
   split at h
   · exact absurd rfl h
   · rfl
  unfold lvFit ExtP.fitS
  rw [e]
  have : ExtP.isLmsS LmsR.zero = false := by decide +kernel
  rw [this]; rfl
 have ho : (ots b).2 ≠ 0 -> lvFit a b = false := fun h => by
  have e : ots b = (OtsR.zero, 60) := by
   unfold ots at h ⊢
   split at h
   · exact absurd rfl h
   · rfl
  unfold lvFit ExtP.fitS
  rw [e]
  have : ExtP.isOtsS OtsR.zero = false := by decide +kernel
  rw [this]
  split <;> rfl
 by_cases h1 : (lms a).2 = 0
 · by_cases h2 : (ots b).2 = 0
   · rw [h1, h2]; rfl
   · rw [ho h2]; simp
 · rw [hl h1]; simp
theorem fit_zero : lvFit 0 0 = false := by decide +kernel
theorem c_sets' (a b : Int) (w : World) (ha : u32P a) (hb : u32P b) :
 Calls Tryz.prog 134 #[.agg #[.int .u32 a, .int .u32 b]] w fun e w' => e = .returned (.tuple #[(lms a).1.enc, (ots b).1.enc, .bool (lvFit a b)]) /\ Below w.heap.size w w' := by
 rw [<- fit_ok a b]; exact c_sets a b w ha hb
def IntB (z : Int) (w : World) (e : Ending) (w' : World) : Prop := e = .returned (.int .i64 z) /\ Below w.heap.size w w'
theorem intB_i {a b : Int} {w w' : World} (h : a = b) (hb : Below w.heap.size w w') : IntB b w (.returned (.int .i64 a)) w' := ⟨by rw [h], hb⟩
def hssE (l : List Lv) : Int := if hssS l = true then 0 else 90
attribute [local go_sem high] eqLv
theorem v0z (v : Lv) : v.f0 = 0 -> v.f1 = 0 -> lvFit v.f0 v.f1 = false := fun h0 h1 => by rw [h0, h1]; exact fit_zero
theorem c_hssMay (A : Option Addr) (c : Nat) (l : List Lv) (w : World) (hC : k74.C w A l.length l) (hc : l.length <= c) (hv : lvBd l) :
 Calls Tryz.prog 104 #[.slice A l.length c] w (IntB (hssE l) w) := by
 have hn : l.length <= 9223372036854775807 := hC.2.1
 obtain ⟨R, hR⟩ : ∃ R, hssE l = R := ⟨_, rfl⟩
 rw [hR]
 by_cases h1 : 1 <= l.length
 · by_cases h8 : l.length <= 8
   · have t1 : ¬ ((l.length : Int) < 1) := by omega
     have t8 : ¬ (8 < (l.length : Int)) := by omega
     unfold hssE hssS at hR
     rw [decide_eq_true h1, decide_eq_true h8, Bool.true_and, Bool.true_and] at hR
     have HR := Lib.hid hR
     clear hR
     have HC := Zz.mk hC
     clear hC
     obtain ⟨ad, e0, x0, x1⟩ := at_T74 HC.out 0 (by omega) (by omega)
     cases e0
     have cS := Lib.hid (fun i W => c_sets' (l.getD i z74).f0 (l.getD i z74).f1 W (hv i).1 (hv i).2)
     clear hv
     simp only [rd_T74, Int.toNat_zero] at x0 x1
     rw [add0] at x0
     rw [add0] at x1
     have c0 := cS.out 0
     have hF : firstL l = (lms (l.getD 0 z74).f0).1 := rfl
     generalize l.getD 0 z74 = V0 at c0 x0 x1 hF
     generalize lvFit V0.f0 V0.f1 = fit0 at c0
     generalize (lms V0.f0).1 = F at c0 hF
     generalize (ots V0.f1).1 = G at c0
     obtain ⟨f0, f1, f2, f3⟩ := F
     obtain ⟨o0, o1, o2, o3, o4, o5⟩ := G
     simp only [LmsR.enc, OtsR.enc] at c0
     have C0 := Lib.hid c0
     have HF := Lib.hid hF
     clear c0 hF
     go_enter Tryz.func104, Tryz.ntmps104
     go_wp2_with (first
      | (go_at_call 134
         with_reducible refine (C0.out _).mono ?_
         rintro e v ⟨rfl, hb⟩
         have F0 := Zz.mk ((⟨heap_alloc_new v _, hb.alloc hb.size _⟩ : Bx w (v.alloc (.cells #[.int .u32 f0, .bool f1, .int .i64 f2, .int .i64 f3] 144)) v.heap.size [.int .u32 f0, .bool f1, .int .i64 f2, .int .i64 f3] 144).push (.cells #[.int .u32 o0, .bool o1, .int .i64 o2, .int .i64 o3, .int .i64 o4, .int .i64 o5] 140))
         clear hb)
      | fail)
     generalize v.heap.size = fb at *
     go_loopw [6, 30] (fun v6 v30 wr => ∃ i : Nat, v30 = .int .i64 i /\ i <= l.length /\ v6 = .int .i64 (sumH (l.take i)) /\ Zz ((l.take i).all (lvOk ⟨f0, f1, f2, f3⟩) = true) /\ Zz (Bx w wr fb [.int .u32 f0, .bool f1, .int .i64 f2, .int .i64 f3] 144)) (fun _ v30 _ => l.length - (intOf v30).toNat)
     case atStart => exact ⟨0, rfl, by omega, rfl, ⟨rfl⟩, F0⟩
     case round =>
      obtain ⟨i, rfl, hi, rfl, HA, HX⟩ := hrel
      clear F0
      have hbd := sumH_bd (l.take i)
      have hln : (l.take i).length = i := by rw [List.length_take]; omega
      rw [hln] at hbd
      clear hln
      obtain ⟨hbd0, hbd1⟩ := hbd
      by_cases hlt : i < l.length
      · obtain ⟨ad', e0, y0, y1⟩ := at_T74 HC.out (i : Int) (by omega) (by omega)
        cases e0
        simp only [rd_T74, Int.toNat_natCast] at y0 y1
        have y0' := (HX.out.hb.cell (World.block_lt_of_cell? w _ y0)).trans y0
        have y1' := (HX.out.hb.cell (World.block_lt_of_cell? w _ y1)).trans y1
        clear y0 y1 x0 x1
        have hsn := sumH_snoc (l.take i) (l.getD i z74)
        rw [<- take_snoc74 l i hlt] at hsn
        have HS := Lib.hid hsn
        have HT := Lib.hid (fun h => all_take (p := lvOk ⟨f0, f1, f2, f3⟩) i hlt HA.out h)
        have HN := Lib.hid (fun h => all_no (l := l) (p := lvOk ⟨f0, f1, f2, f3⟩) i hlt h)
        have hh := lms_h (l.getD i z74).f0
        have c1 := cS.out i
        have HZ := Lib.hid (v0z (l.getD i z74))
        clear hsn HA C0
        generalize l.getD i z74 = V at *
        unfold lvOk at HT HN
        generalize lvFit V.f0 V.f1 = fit at *
        generalize (lms V.f0).1 = L at *
        generalize (ots V.f1).1 = O at *
        obtain ⟨l0, l1, l2, l3⟩ := L
        obtain ⟨o0, o1, o2, o3, o4, o5⟩ := O
        simp only [LmsR.enc, OtsR.enc] at c1 hh
        obtain ⟨hh0, hh1⟩ := hh
        have C1 := Lib.hid c1
        clear c1
        have V0 := Zz.mk (HX.out.on [.int .u32 V.f0, .int .u32 V.f1] 74)
        have F1 := Zz.mk (HX.out.push (.cells #[.int .u32 V.f0, .int .u32 V.f1] 74))
        have v0 := V0.out.c 0
        have v1 := V0.out.c 1
        go_upto_region 9 with (first
         | (go_at_call 134
            with_reducible refine (C1.out _).mono ?_
            rintro e v2 ⟨rfl, hb⟩
            have L0 := Zz.mk (((F1.out.next hb).on [.int .u32 l0, .bool l1, .int .i64 l2, .int .i64 l3] 144).push (.cells #[.int .u32 o0, .bool o1, .int .i64 o2, .int .i64 o3, .int .i64 o4, .int .i64 o5] 140))
            replace V0 := Zz.mk (((V0.out.next hb).push (.cells #[.int .u32 l0, .bool l1, .int .i64 l2, .int .i64 l3] 144)).push (.cells #[.int .u32 o0, .bool o1, .int .i64 o2, .int .i64 o3, .int .i64 o4, .int .i64 o5] 140))
            replace F1 := Zz.mk (((F1.out.next hb).push (.cells #[.int .u32 l0, .bool l1, .int .i64 l2, .int .i64 l3] 144)).push (.cells #[.int .u32 o0, .bool o1, .int .i64 o2, .int .i64 o3, .int .i64 o4, .int .i64 o5] 140))
            clear hb
            have v0 := V0.out.c 0
            have v1 := V0.out.c 1
            have g1 := L0.out.c 1
            have g2 := L0.out.c 2
            have g3 := L0.out.c 3
            have k1 := F1.out.c 1
            have k2 := F1.out.c 2)
         | fail)
        generalize (v2.alloc (.cells #[.int .u32 l0, .bool l1, .int .i64 l2, .int .i64 l3] 144)).alloc (.cells #[.int .u32 o0, .bool o1, .int .i64 o2, .int .i64 o3, .int .i64 o4, .int .i64 o5] 140) = W9 at *
        go_wp2
        rotate_left
        · go_roundw
          case rel => exact ⟨i + 1, by go_num, by omega, by rw [HS.out], ⟨HT.out (by clear HT HN HS HR HF; cases fit <;> cases l1 <;> cases f1 <;> simp_all)⟩, F1⟩
          case measure => simp [intOf]; omega
        all_goals
         go_ret
         refine intB_i ?_ F1.out.hb
         rw [<- HR.out, HF.out, show l.all (lvOk ⟨f0, f1, f2, f3⟩) = false from HN.out (by have hz := HZ.out; clear HT HN HS HR HF; cases fit <;> cases l1 <;> cases f1 <;> simp_all)]
         rfl
      · obtain rfl : i = l.length := by omega
        have e1 := List.take_of_length_le (Nat.le_refl l.length)
        have hA := HA.out
        rw [e1] at hA hbd0 hbd1
        rw [e1]
        clear HA C0
        go_wp2
        all_goals
         go_ret
         refine intB_i ?_ HX.out.hb
         rw [<- HR.out, HF.out, hA]
         first
          | (have h60 : ¬ sumH l <= 60 := by omega
             rw [decide_eq_false h60]; rfl)
          | (have h60 : sumH l <= 60 := by omega
             rw [decide_eq_true h60]; rfl)
   · have t8 : 8 < (l.length : Int) := by omega
     obtain rfl : R = 90 := by rw [<- hR]; unfold hssE hssS; rw [decide_eq_false h8]; simp
     clear hR
     go_enter Tryz.func104, Tryz.ntmps104
     go_wp2
     all_goals (go_ret; exact ⟨rfl, Below.refl _ _⟩)
 · have t1 : (l.length : Int) < 1 := by omega
   obtain rfl : R = 90 := by rw [<- hR]; unfold hssE hssS; rw [decide_eq_false h1]; rfl
   clear hR
   go_enter Tryz.func104, Tryz.ntmps104
   go_wp2
   all_goals (go_ret; exact ⟨rfl, Below.refl _ _⟩)
end Go.Proofs.YtpdinahdcedmkaaGreatDoor.Ext
namespace Go.Proofs.YtpdinahdcedmkaaGreatDoor.Ext
open Go.Proofs.YtpdinahdcedmkaaGreatDoor.P
open Go.RowKit YtpdinahdcedmkaaGreatDoorW.PrintWords YtpdinahdcedmkaaGreatDoorW.PrintLast YtpdinahdcedmkaaGreatDoorW.PrintMore Go.Proofs.YtpdinahdcedmkaaGreatDoor.Spec
abbrev Act := S34
/-- an act's numbers are of their kinds -/
structure ActBd (x : Act) : Prop where
 lv : lvBd x.f4
 xm : u32P x.f5
def setsS (x : Act) : Bool := if x.f3 = 1 then x.f5 == 0 && hssS x.f4 else if x.f3 = 2 then (xms x.f5).2 == 0 && decide (x.f4.length = 0) else false
def keyedS (x : Act) : Bool := if hasS x.f0 115 = true then setsS x else x.f3 == 0 && (x.f5 == 0 && decide (x.f4.length = 0))
theorem c_keyed (x : Act) (cs : List Value) (w : World) (hK : k34.K w x cs) (hx : ActBd x) :
 Calls Tryz.prog 64 #[.agg cs.toArray] w (BoolB (keyedS x) w) := by
 have X0 := Zz.mk (Bx.new w cs 34)
 obtain ⟨A4, c4, A11, c11, A12, c12, rfl, l4, g4, l11, g11, l12, g12⟩ := k34_open hK
 have cH := Lib.hid (fun W => c_has x.f0 115 W)
 have cM := Lib.hid (fun W (hW : Below w.heap.size w W) => c_hssMay A4 c4 x.f4 W (Kd.C_below g4 hW) l4 hx.lv)
 have cX := Lib.hid (fun W => ExtP.c_Xmss x.f5 W hx.xm.1 hx.xm.2)
 clear hK hx g4 g11 g12 l4 l11 l12
 obtain ⟨R, hR⟩ : ∃ R, keyedS x = R := ⟨_, rfl⟩
 rw [hR]
 unfold keyedS setsS at hR
 have HR := Lib.hid hR
 clear hR
 unfold hssE at cM
 generalize hssS x.f4 = hm at *
 generalize xms x.f5 = xq at *
 obtain ⟨⟨x0, x1, x2, x3, x4⟩, ex⟩ := xq
 simp only [XmsR.enc] at cX
 generalize x.f3 = kd at *
 generalize x.f5 = xm at *
 generalize x.f4.length = n4 at *
 generalize hasS x.f0 115 = hs at *
 have q0 := X0.out.c 0
 have q3 := X0.out.c 3
 have q4 := X0.out.c 4
 have q5 := X0.out.c 5
 go_enter Tryz.func64, Tryz.ntmps64
 go_wp2_with (first
  | (go_at_call 103
     with_reducible refine (cH.out _).mono ?_
     rintro e v ⟨rfl, hb⟩
     replace X0 := Zz.mk (X0.out.next hb)
     clear hb
     have q0 := X0.out.c 0
     have q3 := X0.out.c 3
     have q4 := X0.out.c 4
     have q5 := X0.out.c 5)
  | (go_at_call 104
     with_reducible refine (cM.out _ X0.out.hb).mono ?_
     rintro e v ⟨rfl, hb⟩
     replace X0 := Zz.mk (X0.out.next hb)
     clear hb)
  | (go_at_call 105
     with_reducible refine (cX.out _).mono ?_
     rintro e v ⟨rfl, hb⟩
     replace X0 := Zz.mk ((X0.out.next hb).push (.cells #[.int .u32 x0, .bool x1, .int .i64 x2, .int .i64 x3, .int .i64 x4] 128))
     clear hb
     have q4 := X0.out.c 4)
  | fail)
 all_goals
  go_ret
  refine boolB_i ?_ X0.out.hb
  rw [<- HR.out]
  clear HR X0 cH cM cX
  simp_all [nat_beq0]
theorem r_sets (x : Act) (cs : List Value) (w : World) (hK : k34.K w x cs) (hx : ActBd x) :
 Calls Tryz.prog 72 #[.agg cs.toArray] w (BoolB (setsS x) w) := by
 have X0 := Zz.mk (Bx.new w cs 34)
 obtain ⟨A4, c4, A11, c11, A12, c12, rfl, l4, g4, l11, g11, l12, g12⟩ := k34_open hK
 have cM := Lib.hid (fun W (hW : Below w.heap.size w W) => r_hssMay A4 c4 x.f4 W (Kd.C_below g4 hW) l4 hx.lv)
 have cX := Lib.hid (fun W => ExtP.r_Xmss x.f5 W hx.xm.1 hx.xm.2)
 clear hK hx g4 g11 g12 l4 l11 l12
 obtain ⟨R, hR⟩ : ∃ R, setsS x = R := ⟨_, rfl⟩
 rw [hR]
 unfold setsS at hR
 have HR := Lib.hid hR
 clear hR
 generalize hssS x.f4 = hm at *
 generalize xms x.f5 = xq at *
 obtain ⟨⟨x0, x1, x2, x3, x4⟩, ex⟩ := xq
 simp only [XmsR.enc] at cX
 generalize x.f3 = kd at *
 generalize x.f5 = xm at *
 generalize x.f4.length = n4 at *
 have q3 := X0.out.c 3
 have q4 := X0.out.c 4
 have q5 := X0.out.c 5
 go_enter Tryz.func72, Tryz.ntmps72
 go_wp2_with (first
  | (go_at_call 113
     with_reducible refine (cM.out _ ((Below.refl _ _).alloc (Nat.le_refl _) _)).mono ?_
     rintro e v ⟨rfl, hb⟩
     have HB := Zz.mk (((Below.refl w.heap.size w).alloc (Nat.le_refl _) _).trans (hb.mono (by simp)))
     clear hb)
  | (go_at_call 114
     with_reducible refine (cX.out _).mono ?_
     rintro e v ⟨rfl, hb⟩
     replace X0 := Zz.mk ((X0.out.next hb).push (.cells #[.int .u32 x0, .bool x1, .int .i64 x2, .int .i64 x3, .int .i64 x4] 128))
     clear hb
     have q4 := X0.out.c 4)
  | fail)
 all_goals
  go_ret
  refine boolB_i ?_ (by first | exact HB.out | exact X0.out.hb)
  rw [<- HR.out]
  clear HR cM cX
  try clear X0
  simp_all [nat_beq0]
def findReg (n : Nat) : Code -> Option Code
 | .region id ops d => if id == n then some (.region id ops d) else none
 | .loop c => findReg n c
 | .seq a b => match findReg n a with
   | some c => some c
   | none => findReg n b
 | .block _ c => findReg n c
 | .scope c => findReg n c
 | .cond _ a b => match findReg n a with
   | some c => some c
   | none => findReg n b
 | _ => none
def oneS (lo hi : Int) : Bool := decide (lo < hi) && decide (hi <= 1152921504606846976)
theorem r_one (lo hi : Int) (w : World) : Calls Tryz.prog 73 #[.agg #[.int .u64 lo, .int .u64 hi]] w (BoolB (oneS lo hi) w) := by
 have X0 := Zz.mk (Bx.new w [.int .u64 lo, .int .u64 hi] 30)
 have q0 := X0.out.c 0
 have q1 := X0.out.c 1
 go_enter Tryz.func73, Tryz.ntmps73
 go_wp2
 all_goals
  go_ret
  refine boolB_i ?_ X0.out.hb
  clear X0 q0 q1
  simp_all [oneS]
  try omega
abbrev Plan := S25
def b2R (hs : Bool) (kd xm : Int) (st : Bool) (n : Nat) : Bool := (hs != (kd != 0)) || (hs && !st || (!hs && (xm != 0 || decide (0 < n))))
def b4R (hd ht : Bool) (dev dto : Int) (n : Nat) : Bool := decide (dev < 0) || (decide ((n : Int) <= dev) || (!hd && dev != 0 || (decide (dto < 0) || (decide ((n : Int) <= dto) || (!ht && dto != 0 || (ht && dto == dev))))))
def b5R (hk hi hr : Bool) (key tid lo hi_ : Int) : Bool := (!hk && key != 0) || (!hi && tid != 0 || (hr != oneS lo hi_ || (!hr && !(lo == 0 && hi_ == 0))))
def mayR (n : Nat) (x : Act) : Bool := !(rowOf x.f0).2.toList.isEmpty && (dataR x.f0 x.f10.length && (numberR x.f0 x.f9 && (!(b2R (hasS x.f0 115) x.f3 x.f5 (setsS x) x.f4.length) && (!(b4R (hasS x.f0 100) (hasS x.f0 116) x.f1 x.f2 n) && (!(b5R (hasS x.f0 107) (hasS x.f0 105) (hasS x.f0 114) x.f6 x.f7 x.f8.f0 x.f8.f1) && (decide (x.f11.length = 0) || (hasS x.f0 112 && decide (x.f11.length <= 600))))))))
theorem actT_info : (Tryz.prog.info? 34).map (·.size) = some 13 := by kernel_rfl
/-- a zero act's cells -/
abbrev actZ : Array Value := #[.int .i64 0, .int .i64 0, .int .i64 0, .int .i64 0, .slice none 0 0, .int .u32 0, .int .u32 0, .int .u32 0, .int .u64 0, .int .u64 0, .int .i64 0, .slice none 0 0, .slice none 0 0]
theorem act_store0 (c0 c1 c2 c3 c4 c5 c6 c7 c8 c9 c10 c11 c12 : Value) (ho : #[c0, c1, c2, c3, c4, c5, c6, c7, c8, c9, c10, c11, c12].all (·.oneCell') = true) (w : World) : (storeCells ⟨w.heap.size, 0, none⟩ [c0, c1, c2, c3, c4, c5, c6, c7, c8, c9, c10, c11, c12]).run Tryz.prog (w.alloc (.cells actZ 34)) = .ok () (w.alloc (.cells #[c0, c1, c2, c3, c4, c5, c6, c7, c8, c9, c10, c11, c12] 34)) :=
 run_storeCells_new (P := Tryz.prog) w 34 actZ #[c0, c1, c2, c3, c4, c5, c6, c7, c8, c9, c10, c11, c12] (by show _ = some 13; exact actT_info) rfl ho
/-- are two lists equal, element by element? -/
def eqBy {α : Type} (q : α -> α -> Bool) : List α -> List α -> Bool
 | [], [] => true
 | x :: t, y :: u => q x y && eqBy q t u
 | [], _ :: _ => false
 | _ :: _, [] => false
theorem eqBy_len {α : Type} (q : α -> α -> Bool) : ∀ a b : List α, a.length ≠ b.length -> eqBy q a b = false
 | [], [], h => absurd rfl h
 | x :: t, y :: u, h => by unfold eqBy; rw [eqBy_len q t u (fun e => h (by simp [e]))]; simp
 | [], _ :: _, _ => rfl
 | _ :: _, [], _ => rfl
theorem eqBy_drop {α : Type} (q : α -> α -> Bool) (z : α) (a b : List α) (i : Nat) (ha : i < a.length) (hb : i < b.length) : eqBy q (a.drop i) (b.drop i) = (q (a.getD i z) (b.getD i z) && eqBy q (a.drop (i + 1)) (b.drop (i + 1))) := by
 rw [List.drop_eq_getElem_cons ha, List.drop_eq_getElem_cons hb, List.getD_eq_getElem?_getD, List.getD_eq_getElem?_getD, List.getElem?_eq_getElem ha, List.getElem?_eq_getElem hb]
 rfl
theorem eqBy_end {α : Type} (q : α -> α -> Bool) (a b : List α) (i : Nat) (ha : a.length <= i) (hb : b.length <= i) : eqBy q (a.drop i) (b.drop i) = true := by
 rw [List.drop_of_length_le ha, List.drop_of_length_le hb]; rfl
def lvq (a b : Lv) : Bool := a.f0 == b.f0 && (a.f1 == b.f1)
attribute [local go_sem high] eqLv
def boq (a b : Bool) : Bool := a == b
end Go.Proofs.YtpdinahdcedmkaaGreatDoor.Ext
namespace Go.Proofs.YtpdinahdcedmkaaGreatDoor.Ext
open Go.RowKit YtpdinahdcedmkaaGreatDoorW.PrintWords YtpdinahdcedmkaaGreatDoorW.PrintLast YtpdinahdcedmkaaGreatDoorW.PrintMore Go.Proofs.YtpdinahdcedmkaaGreatDoor.Spec
def decS (n : Int) : ByteArray := strOfNums (decL n.toNat)
theorem decS_size (n : Int) (h1 : n < 18446744073709551616) : (decS n).size <= 20 := by
 have := decL_len 19 n.toNat (by omega)
 unfold decS
 rw [strOfNums_size]
 exact this
theorem decP_size (n : Int) (h0 : 0 <= n) (h1 : n < 100000) : (ExtP.decS n).size <= 20 := ExtP.decS_size n h0 (by omega)
theorem nameS_size (k c : Int) : (ExtP.nameS k c).size <= 100 := by
 unfold ExtP.nameS
 split
 · split
   · have := ExtP.ots_bd c
     have z1 := decP_size (ots c).1.n this.1 this.2.1
     have z2 := decP_size (ots c).1.w this.2.2.1 this.2.2.2
     have z3 := ExtP.sumS_size (ots c).1.shake
     unfold ExtP.name1S
     simp only [ByteArray.size_append]
     show 6 + _ + 2 + _ + 2 + _ <= _
     omega
   · split
     · have := ExtP.lms_bd c
       have z1 := decP_size (lms c).1.n this.1 this.2.1
       have z2 := decP_size (lms c).1.h this.2.2.1 this.2.2.2
       have z3 := ExtP.sumS_size (lms c).1.shake
       unfold ExtP.name2S
       simp only [ByteArray.size_append]
       show 4 + _ + 2 + _ + 2 + _ <= _
       omega
     · have := ExtP.xms_bd c
       have z1 := decP_size (xms c).1.h this.1 this.2.1
       have z2 := ExtP.decS_size (8 * (xms c).1.n) (by omega) (by omega)
       have z3 := ExtP.sumX_size (xms c).1.shake
       unfold ExtP.name3S
       simp only [ByteArray.size_append]
       show 5 + _ + 1 + _ + 1 + _ <= _
       omega
 · decide
end Go.Proofs.YtpdinahdcedmkaaGreatDoor.Ext
namespace Go.Proofs.YtpdinahdcedmkaaGreatDoor.Ext
open Go.Proofs.YtpdinahdcedmkaaGreatDoor.P
open Go.RowKit YtpdinahdcedmkaaGreatDoorW.PrintWords YtpdinahdcedmkaaGreatDoorW.PrintLast YtpdinahdcedmkaaGreatDoorW.PrintMore Go.Proofs.YtpdinahdcedmkaaGreatDoor.Spec
def lvF (a : ByteArray) (v : Lv) : ByteArray := a ++ (((⟨#[32]⟩ ++ ExtP.nameS 2 v.f0) ++ ⟨#[47]⟩) ++ ExtP.nameS 1 v.f1)
def setsB (x : Act) : ByteArray := if x.f3 = 2 then ⟨#[120, 109, 115, 115, 32]⟩ ++ ExtP.nameS 3 x.f5 else x.f4.foldl lvF ⟨#[104, 115, 115]⟩
/-- a string's contract -/
def StrB (s : ByteArray) (w : World) : Ending -> World -> Prop := fun e w' => e = .returned (.string s) /\ Below w.heap.size w w'
def HL (w : World) (g : Nat) (c0 c1 : Value) (W : World) : Prop := W.cell? ⟨g, 0, none⟩ = some c0 /\ W.cell? ⟨g, 1, none⟩ = some c1 /\ Zz (Bx w W g [c0, c1] 74)
theorem hl_mk {w W : World} {g : Nat} {c0 c1 : Value} (h : Bx w W g [c0, c1] 74) : HL w g c0 c1 W := ⟨h.c 0, h.c 1, ⟨h⟩⟩
theorem HL.next {w W W' : World} {g : Nat} {c0 c1 : Value} (h : HL w g c0 c1 W) (hb : Below W.heap.size W W') : HL w g c0 c1 W' := hl_mk (h.2.2.out.next hb)
theorem drop_cons74 (l : List Lv) (i : Nat) (h : i < l.length) : l.drop i = l.getD i z74 :: l.drop (i + 1) := by
 rw [List.drop_eq_getElem_cons h]
 congr 1
 rw [List.getD_eq_getElem?_getD, List.getElem?_eq_getElem h]
 rfl
theorem c_setsOf (x : Act) (cs : List Value) (w : World) (hK : k34.K w x cs) (hx : ActBd x) (hl : x.f4.length <= 1048576) :
 Calls Tryz.prog 110 #[.agg cs.toArray] w (StrB (setsB x) w) := by
 have cX := Lib.hid (fun W => ExtP.c_Name 3 x.f5 W hx.xm.1 hx.xm.2)
 have cA := Lib.hid (fun i W => ExtP.c_Name 2 (x.f4.getD i z74).f0 W (hx.lv i).1.1 (hx.lv i).1.2)
 have cB := Lib.hid (fun i W => ExtP.c_Name 1 (x.f4.getD i z74).f1 W (hx.lv i).2.1 (hx.lv i).2.2)
 have X0 := Zz.mk (Bx.new w cs 34)
 obtain ⟨A4, c4, A11, c11, A12, c12, rfl, l4, g4, l11, g11, l12, g12⟩ := k34_open hK
 have hn : x.f4.length <= 9223372036854775807 := g4.2.1
 have HC := Zz.mk g4
 clear hK hx g4 g11 g12 l4 l11 l12
 obtain ⟨R, hR⟩ : ∃ R, setsB x = R := ⟨_, rfl⟩
 rw [hR]
 unfold setsB at hR
 have q3 := X0.out.c 3
 have q4 := X0.out.c 4
 have q5 := X0.out.c 5
 by_cases h2 : x.f3 = 2
 · rw [if_pos h2] at hR
   have HR := Lib.hid hR
   have t2 : (x.f3 == 2) = true := by rw [h2]; rfl
   clear hR h2 cA cB
   have zx := nameS_size 3 x.f5
   generalize ExtP.nameS 3 x.f5 = n3 at *
   have f1 : 5 + n3.size <= 9223372036854775807 := by omega
   go_enter Tryz.func110, Tryz.ntmps110
   go_wp2_with (first
    | (go_at_call 139
       with_reducible refine (cX.out _).mono ?_
       rintro e v ⟨rfl, hb⟩
       replace X0 := Zz.mk (X0.out.next hb)
       clear hb)
    | fail)
   go_ret
   exact ⟨by rw [<- HR.out]; rfl, X0.out.hb⟩
 · rw [if_neg h2] at hR
   have HR := Lib.hid hR
   have t2 : (x.f3 == 2) = false := beq_eq_false_iff_ne.2 h2
   clear hR h2 cX
   go_enter Tryz.func110, Tryz.ntmps110
   go_wp2
   go_loopw [3, 16] (fun v3 v16 wr => ∃ (i : Nat) (a : ByteArray), v16 = .int .i64 i /\ i <= x.f4.length /\ v3 = .string a /\ a.size <= 3 + 202 * i /\ Zz ((x.f4.drop i).foldl lvF a = R) /\ Zz (Below w.heap.size w wr)) (fun _ v16 _ => x.f4.length - (intOf v16).toNat)
   case atStart => exact ⟨0, _, rfl, by omega, rfl, by decide, ⟨HR.out⟩, ⟨X0.out.hb⟩⟩
   case round =>
    obtain ⟨i, a, rfl, hi, rfl, hz, HA, HB⟩ := hrel
    clear q3 q4 q5 t2 X0 HR
    by_cases hlt : i < x.f4.length
    · obtain ⟨ad', e0, y0, y1⟩ := at_T74 HC.out (i : Int) (by omega) (by omega)
      cases e0
      simp only [rd_T74, Int.toNat_natCast] at y0 y1
      have y0' := (HB.out.cell (World.block_lt_of_cell? w _ y0)).trans y0
      have y1' := (HB.out.cell (World.block_lt_of_cell? w _ y1)).trans y1
      clear y0 y1
      have hA := HA.out
      rw [drop_cons74 _ _ hlt, List.foldl_cons] at hA
      have c2 := Lib.hid (cA.out i)
      have c1 := Lib.hid (cB.out i)
      clear HA
      generalize x.f4.getD i z74 = V at *
      have z2 := nameS_size 2 V.f0
      have z1 := nameS_size 1 V.f1
      unfold lvF at hA
      generalize ExtP.nameS 2 V.f0 = n2 at *
      generalize ExtP.nameS 1 V.f1 = n1 at *
      have HA := Lib.hid hA
      clear hA
      have f1 : 1 + n2.size <= 9223372036854775807 := by omega
      have f2 : (⟨#[32]⟩ ++ n2 : ByteArray).size + 1 <= 9223372036854775807 := by rw [ByteArray.size_append]; show 1 + _ + 1 <= _; omega
      have f3 : ((⟨#[32]⟩ ++ n2) ++ ⟨#[47]⟩ : ByteArray).size + n1.size <= 9223372036854775807 := by rw [ByteArray.size_append, ByteArray.size_append]; show 1 + _ + 1 + _ <= _; omega
      have fz : (((⟨#[32]⟩ ++ n2) ++ ⟨#[47]⟩) ++ n1 : ByteArray).size <= 202 := by rw [ByteArray.size_append, ByteArray.size_append, ByteArray.size_append]; show 1 + _ + 1 + _ <= _; omega
      have f4 : a.size + (((⟨#[32]⟩ ++ n2) ++ ⟨#[47]⟩) ++ n1 : ByteArray).size <= 9223372036854775807 := by omega
      have FZ : Zz ((a ++ (((⟨#[32]⟩ ++ n2) ++ ⟨#[47]⟩) ++ n1)).size <= 3 + 202 * (i + 1)) := ⟨by rw [ByteArray.size_append]; omega⟩
      clear fz
      have k1 := fun W => run_string_add_sum (P := Tryz.prog) W (⟨#[32]⟩ : ByteArray) n2 f1
      have k2 := fun W => run_string_add_sum (P := Tryz.prog) W (⟨#[32]⟩ ++ n2 : ByteArray) (⟨#[47]⟩ : ByteArray) f2
      have k3 := fun W => run_string_add_sum (P := Tryz.prog) W ((⟨#[32]⟩ ++ n2) ++ ⟨#[47]⟩ : ByteArray) n1 f3
      have k4 := fun W => run_string_add_sum (P := Tryz.prog) W a (((⟨#[32]⟩ ++ n2) ++ ⟨#[47]⟩) ++ n1 : ByteArray) f4
      have V0 := Zz.mk (⟨heap_alloc_new wr _, HB.out.alloc HB.out.size _⟩ : Bx w (wr.alloc (.cells #[.int .u32 V.f0, .int .u32 V.f1] 74)) wr.heap.size [.int .u32 V.f0, .int .u32 V.f1] 74)
      go_upto_region 7 with fail
      · skip
        refine wp_region_held_drew (S := HL w wr.heap.size (.int .u32 V.f0) (.int .u32 V.f1)) (by kernel_rfl) (hl_mk V0.out |>.next (Below.drew (Below.refl _ _))) (fun hHeld => ?_)
        apply tkH 0 (hy := by (intro w hSw; (try dsimp only at hSw); (try simp only [HL] at hSw); go_simp; (try with_reducible rfl)))
        apply tkH 1 (hy := by (intro w hSw; (try dsimp only at hSw); (try simp only [HL] at hSw); go_simp; (try with_reducible rfl)))
        apply tkH 2 (hy := by (intro w hSw; (try dsimp only at hSw); (try simp only [HL] at hSw); go_simp; (try with_reducible rfl)))
        apply tkH 6 (hy := by (intro w hSw; (try dsimp only at hSw); (try simp only [HL] at hSw); go_simp; (try with_reducible rfl)))
        apply tkH 7 (hy := by (intro w hSw; (try dsimp only at hSw); (try simp only [HL] at hSw); go_simp; (try with_reducible rfl)))
        refine wpAnyH_ready (rs := [3]) (by kernel_rfl) (by simp) ?_
        refine AllReadyH.cons rfl (fun K hK => ?_) AllReadyH.nil
        go_simp
        go_at_call 139
        with_reducible refine (c2.out _).mono ?_
        rintro e u1 ⟨rfl, hbz⟩
        try go_wp2_with fail
        refine hK.out _ _ (hHeld.next hbz) ?_
        clear hHeld hbz hK K
        intro hHeld
        try simp only [Act.put,pA,pB,pC,pD,pE,pF]
        apply tkH 4 (hy := by (intro w hSw; (try dsimp only at hSw); (try simp only [HL] at hSw); go_simp; (try with_reducible rfl)))
        apply tkH 5 (hy := by (intro w hSw; (try dsimp only at hSw); (try simp only [HL] at hSw); go_simp; (try with_reducible rfl)))
        refine wpAnyH_ready (rs := [8]) (by kernel_rfl) (by simp) ?_
        refine AllReadyH.cons rfl (fun K hK => ?_) AllReadyH.nil
        go_simp
        go_at_call 139
        with_reducible refine (c1.out _).mono ?_
        rintro e u2 ⟨rfl, hbz⟩
        try go_wp2_with fail
        refine hK.out _ _ (hHeld.next hbz) ?_
        clear hHeld hbz hK K
        intro hHeld
        try simp only [Act.put,pA,pB,pC,pD,pE,pF]
        apply tkH 9 (hy := by (intro w hSw; (try dsimp only at hSw); (try simp only [HL] at hSw); go_simp; (try with_reducible rfl)))
        apply tkH 10 (hy := by (intro w hSw; (try dsimp only at hSw); (try simp only [HL] at hSw); go_simp; (try with_reducible rfl)))
        apply tkH 11 (hy := by (intro w hSw; (try dsimp only at hSw); (try simp only [HL] at hSw); go_simp; (try with_reducible rfl)))
        refine wpAnyH_done (by kernel_rfl) ?_ _
        go_wp2_with fail
        go_roundw
        case rel => exact ⟨i + 1, _, by go_num, by omega, rfl, FZ.out, ⟨HA.out⟩, ⟨hHeld.2.2.out.hb⟩⟩
        case measure => simp [intOf]; omega
    · have hA := HA.out
      rw [List.drop_of_length_le (by omega)] at hA
      have hA : a = R := hA
      subst hA
      go_wp2
      go_ret
      exact ⟨rfl, HB.out⟩
end Go.Proofs.YtpdinahdcedmkaaGreatDoor.Ext
