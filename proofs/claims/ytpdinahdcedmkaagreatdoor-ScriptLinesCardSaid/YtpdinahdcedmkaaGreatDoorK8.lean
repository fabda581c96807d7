import Derived.Test.YtpdinahdcedmkaaGreatDoorK7
import Derived.Test.YtpdinahdcedmkaaGreatDoorK4
import Derived.Test.YtpdinahdcedmkaaGreatDoorK5
import Derived.Test.YtpdinahdcedmkaaGreatDoorWWords
import Derived.Test.YtpdinahdcedmkaaGreatDoorWRest
set_option maxHeartbeats 16000000
set_option maxRecDepth 100000
/- liveryref06's MayOts, MayLms, MayXmss, Fit and the lengths. -/
namespace Go.Proofs.YtpdinahdcedmkaaGreatDoor.ExtP
open Go.Proofs.YtpdinahdcedmkaaGreatDoor.Ext
set_option linter.unusedVariables false
open Go.RowKit Go.Proofs.YtpdinahdcedmkaaGreatDoorW.PrintWords Go.Proofs.YtpdinahdcedmkaaGreatDoorW.PrintLast Go.Proofs.YtpdinahdcedmkaaGreatDoor.Spec
attribute [local go_sem high] eqOts eqLms eqXms
theorem r_MayOts (o : OtsR) (w : World) (g0 : 0 <= o.code) (g1 : o.code < 4294967296) :
 Calls Tryz.prog 177 #[o.enc] w fun e w' => e = .returned (.bool (isOtsS o)) /\ Below w.heap.size w w' := by
 have Co := fun w => r_Ots o.code w g0 g1
 unfold isOtsS
 unfold eqO
 generalize hx : ots o.code = x at *
 obtain ⟨⟨a0, a1, a2, a3, a4, a5⟩, er⟩ := x
 have he : er = 0 \/ er = 60 := by have := ots_err o.code; rw [hx] at this; exact this
 obtain ⟨b0, b1, b2, b3, b4, b5⟩ := o
 simp only [OtsR.enc] at *
 have co := Lib.hid Co; clear Co hx
 rcases he with rfl | rfl
 · rw [if_pos rfl]
   go_enter Tryz.func177, Tryz.ntmps177
   go_wp2_with (first
    | (go_at_call 117; refine (co.out _).mono ?_; rintro e v1 ⟨rfl, hb1⟩; obtain ⟨hc, hf⟩ := bcell hb1; have hz : w.heap.size < v1.heap.size := by (have hz0 := hb1.size; simp at hz0; omega)))
   go_ret
   exact ⟨rfl, (below_box hb1).alloc (below_box hb1).size _⟩
 · rw [if_neg (by decide)]
   go_enter Tryz.func177, Tryz.ntmps177
   go_wp2_with (first
    | (go_at_call 117; refine (co.out _).mono ?_; rintro e v1 ⟨rfl, hb1⟩; obtain ⟨hc, hf⟩ := bcell hb1; have hz : w.heap.size < v1.heap.size := by (have hz0 := hb1.size; simp at hz0; omega)))
   go_ret
   exact ⟨rfl, (below_box hb1).alloc (below_box hb1).size _⟩
theorem r_MayLms (o : LmsR) (w : World) (g0 : 0 <= o.code) (g1 : o.code < 4294967296) :
 Calls Tryz.prog 176 #[o.enc] w fun e w' => e = .returned (.bool (isLmsS o)) /\ Below w.heap.size w w' := by
 have Co := fun w => r_Lms o.code w g0 g1
 unfold isLmsS
 unfold eqL
 generalize hx : lms o.code = x at *
 obtain ⟨⟨a0, a1, a2, a3⟩, er⟩ := x
 have he : er = 0 \/ er = 60 := by have := lms_err o.code; rw [hx] at this; exact this
 obtain ⟨b0, b1, b2, b3⟩ := o
 simp only [LmsR.enc] at *
 have co := Lib.hid Co; clear Co hx
 rcases he with rfl | rfl
 · rw [if_pos rfl]
   go_enter Tryz.func176, Tryz.ntmps176
   go_wp2_with (first
    | (go_at_call 118; refine (co.out _).mono ?_; rintro e v1 ⟨rfl, hb1⟩; obtain ⟨hc, hf⟩ := bcell hb1; have hz : w.heap.size < v1.heap.size := by (have hz0 := hb1.size; simp at hz0; omega)))
   go_ret
   exact ⟨rfl, (below_box hb1).alloc (below_box hb1).size _⟩
 · rw [if_neg (by decide)]
   go_enter Tryz.func176, Tryz.ntmps176
   go_wp2_with (first
    | (go_at_call 118; refine (co.out _).mono ?_; rintro e v1 ⟨rfl, hb1⟩; obtain ⟨hc, hf⟩ := bcell hb1; have hz : w.heap.size < v1.heap.size := by (have hz0 := hb1.size; simp at hz0; omega)))
   go_ret
   exact ⟨rfl, (below_box hb1).alloc (below_box hb1).size _⟩
theorem r_Fit (l : LmsR) (o : OtsR) (w : World) (l0 : 0 <= l.code) (l1 : l.code < 4294967296) (g0 : 0 <= o.code) (g1 : o.code < 4294967296) :
 Calls Tryz.prog 169 #[l.enc, o.enc] w fun e w' => e = .returned (.bool (fitS l o)) /\ Below w.heap.size w w' := by
 have Cl := fun w => r_MayLms l w l0 l1
 have Co := fun w => r_MayOts o w g0 g1
 unfold fitS
 obtain ⟨a0, a1, a2, a3⟩ := l
 obtain ⟨b0, b1, b2, b3, b4, b5⟩ := o
 generalize isLmsS _ = p at *
 generalize isOtsS _ = q at *
 simp only [LmsR.enc, OtsR.enc] at *
 have cl := Lib.hid Cl; have co := Lib.hid Co; clear Cl Co
 cases p with
 | false =>
   rw [if_neg (by decide)]
   go_enter Tryz.func169, Tryz.ntmps169
   go_wp2_with (first
    | (go_at_call 176; refine (cl.out _).mono ?_; rintro e v1 ⟨rfl, hb1⟩; obtain ⟨hc, hf⟩ := bcell hb1; have hz : w.heap.size + 1 < v1.heap.size := (by (have hz0 := hb1.size; simp at hz0; omega)); have hzA : w.heap.size < v1.heap.size := by omega)
    | (go_at_call 177; refine (co.out _).mono ?_; rintro e v2 ⟨rfl, hb2⟩; obtain ⟨hc2, hf2⟩ := bcell hb2; have hz2 : w.heap.size + 1 < v2.heap.size := by (have hz0 := hb2.size; omega)))
   go_ret
   exact ⟨rfl, below_box (below_box hb1)⟩
 | true =>
   rw [if_pos rfl]
   cases q with
   | false =>
     rw [if_neg (by decide)]
     go_enter Tryz.func169, Tryz.ntmps169
     go_wp2_with (first
      | (go_at_call 176; refine (cl.out _).mono ?_; rintro e v1 ⟨rfl, hb1⟩; obtain ⟨hc, hf⟩ := bcell hb1; have hz : w.heap.size + 1 < v1.heap.size := (by (have hz0 := hb1.size; simp at hz0; omega)); have hzA : w.heap.size < v1.heap.size := by omega)
      | (go_at_call 177; refine (co.out _).mono ?_; rintro e v2 ⟨rfl, hb2⟩; obtain ⟨hc2, hf2⟩ := bcell hb2; have hz2 : w.heap.size + 1 < v2.heap.size := by (have hz0 := hb2.size; omega)))
     go_ret
     exact ⟨rfl, below_step (below_box (below_box hb1)) hb2⟩
   | true =>
     rw [if_pos rfl]
     cases t : (a1 == b1) with
     | false =>
       rw [if_neg (by decide)]
       go_enter Tryz.func169, Tryz.ntmps169
       go_wp2_with (first
        | (go_at_call 176; refine (cl.out _).mono ?_; rintro e v1 ⟨rfl, hb1⟩; obtain ⟨hc, hf⟩ := bcell hb1; have hz : w.heap.size + 1 < v1.heap.size := (by (have hz0 := hb1.size; simp at hz0; omega)); have hzA : w.heap.size < v1.heap.size := by omega)
        | (go_at_call 177; refine (co.out _).mono ?_; rintro e v2 ⟨rfl, hb2⟩; obtain ⟨hc2, hf2⟩ := bcell hb2; have hz2 : w.heap.size + 1 < v2.heap.size := by (have hz0 := hb2.size; omega)))
       go_ret
       exact ⟨rfl, below_step (below_box (below_box hb1)) hb2⟩
     | true =>
       rw [if_pos rfl]
       go_enter Tryz.func169, Tryz.ntmps169
       go_wp2_with (first
        | (go_at_call 176; refine (cl.out _).mono ?_; rintro e v1 ⟨rfl, hb1⟩; obtain ⟨hc, hf⟩ := bcell hb1; have hz : w.heap.size + 1 < v1.heap.size := (by (have hz0 := hb1.size; simp at hz0; omega)); have hzA : w.heap.size < v1.heap.size := by omega)
        | (go_at_call 177; refine (co.out _).mono ?_; rintro e v2 ⟨rfl, hb2⟩; obtain ⟨hc2, hf2⟩ := bcell hb2; have hz2 : w.heap.size + 1 < v2.heap.size := by (have hz0 := hb2.size; omega)))
       go_ret
       exact ⟨rfl, below_step (below_box (below_box hb1)) hb2⟩
end Go.Proofs.YtpdinahdcedmkaaGreatDoor.ExtP
namespace Go.Proofs.YtpdinahdcedmkaaGreatDoor.Ext
open Go.RowKit Go.Proofs.YtpdinahdcedmkaaGreatDoorW.PrintWords Go.Proofs.YtpdinahdcedmkaaGreatDoorW.PrintLast Go.Proofs.YtpdinahdcedmkaaGreatDoorW.PrintMore Go.Proofs.YtpdinahdcedmkaaGreatDoor.Spec
def u32B (c : Int) : Prop := 0 <= c /\ c < 4294967296
instance (c : Int) : Decidable (u32B c) := inferInstanceAs (Decidable (_ /\ _))
end Go.Proofs.YtpdinahdcedmkaaGreatDoor.Ext
-- Written by this session's program xprint.py; not trusted: Lean checks it.
namespace Go.Proofs.YtpdinahdcedmkaaGreatDoor.P
open Go.Proofs.YtpdinahdcedmkaaGreatDoor.Ext hiding blk_cell blk_set nums_append
open Go.RowKit Go.Proofs.YtpdinahdcedmkaaGreatDoorW.PrintWords Go.Proofs.YtpdinahdcedmkaaGreatDoorW.PrintLast Go.Proofs.YtpdinahdcedmkaaGreatDoorW.PrintMore
attribute [local go_sem] max2_int min2_int max_two min_two max_three min_three max_four min_four   -- for this text's walks alone
set_option linter.unusedVariables false
set_option linter.unusedSimpArgs false
def errW : Option Int -> Value
 | none => .nilIface
 | some c => .iface 0 (.int .i64 c)
theorem errW_none : errW none = .nilIface := rfl
theorem errW_some (c : Int) : errW (some c) = .iface 0 (.int .i64 c) := rfl
theorem info5 : (Tryz.prog.info? 5).map (fun i => (i.zero, i.size, i.bytes)) = some (some (.int .u8 0), 1, 1) := by kernel_rfl
/-! #### struct type 74 -/
structure S74 where
 f0 : Int
 f1 : Int
def z74 : S74 := ⟨(0 : Int), (0 : Int)⟩
def k74 : Kd S74 := Kd.iso (Kd.pair (Kd.int .u32) (Kd.int .u32)) (fun x : S74 => (x.f0, x.f1))
theorem k74_open {w : World} {x : S74} {cs : List Value} (h : k74.K w x cs) : cs = [.int .u32 x.f0, .int .u32 x.f1] := by
 obtain ⟨_, _, rfl, rfl, rfl⟩ := h
 exact rfl
theorem k74_mk (w : World) (x : S74)  : k74.K w x [.int .u32 x.f0, .int .u32 x.f1] := ⟨[.int .u32 x.f0], [.int .u32 x.f1], rfl, rfl, rfl⟩
theorem k74_mkM (w : World) (base : Nat) (ok : Nat -> Prop) (x : S74)  : k74.M w base ok x [.int .u32 x.f0, .int .u32 x.f1] := ⟨[.int .u32 x.f0], [.int .u32 x.f1], rfl, rfl, rfl⟩
def rd_T74 (xs : List S74) (i : Int) : S74 := xs.getD i.toNat z74
theorem at_T74 {w : World} {A : Option Addr} {n : Nat} {xs : List S74} (h : Kd.C k74 w A n xs) (i : Int) (h0 : 0 <= i) (h1 : i < n) : ∃ ad , A = some ad /\ w.cell? (ad.add (i.toNat * 2)) = some (.int .u32 (rd_T74 xs i).f0) /\ w.cell? ⟨(ad.add (i.toNat * 2)).block, (ad.add (i.toNat * 2)).off + 1, none⟩ = some (.int .u32 (rd_T74 xs i).f1) := by
 obtain ⟨ad, c, e, _, hK, hc0⟩ := Kd.C_get h z74 i h0 h1
 have hc : ∀ j u, c[j]? = some u -> w.cell? (ad.add (i.toNat * 2 + j)) = some u := hc0
 obtain rfl := k74_open hK
 exact ⟨ad, e, hc 0 _ rfl, by rw [<- add_field _ _ 1 (by omega)]; exact hc 1 _ rfl⟩
/-! #### struct type 30 -/
structure S30 where
 f0 : Int
 f1 : Int
def z30 : S30 := ⟨(0 : Int), (0 : Int)⟩
def k30 : Kd S30 := Kd.iso (Kd.pair (Kd.int .u64) (Kd.int .u64)) (fun x : S30 => (x.f0, x.f1))
theorem k30_open {w : World} {x : S30} {cs : List Value} (h : k30.K w x cs) : cs = [.int .u64 x.f0, .int .u64 x.f1] := by
 obtain ⟨_, _, rfl, rfl, rfl⟩ := h
 exact rfl
theorem k30_mk (w : World) (x : S30)  : k30.K w x [.int .u64 x.f0, .int .u64 x.f1] := ⟨[.int .u64 x.f0], [.int .u64 x.f1], rfl, rfl, rfl⟩
/-! #### struct type 34 -/
structure S34 where
 f0 : Int
 f1 : Int
 f2 : Int
 f3 : Int
 f4 : (List S74)
 f5 : Int
 f6 : Int
 f7 : Int
 f8 : S30
 f9 : Int
 f10 : (List Int)
 f11 : (List Bool)
def z34 : S34 := ⟨(0 : Int), (0 : Int), (0 : Int), (0 : Int), ([] : List S74), (0 : Int), (0 : Int), (0 : Int), z30, (0 : Int), ([] : List Int), ([] : List Bool)⟩
def k34 : Kd S34 := Kd.iso (Kd.pair (Kd.int .i64) (Kd.pair (Kd.int .i64) (Kd.pair (Kd.int .i64) (Kd.pair (Kd.int .i64) (Kd.pair (Kd.slice 74 k74) (Kd.pair (Kd.int .u32) (Kd.pair (Kd.int .u32) (Kd.pair (Kd.int .u32) (Kd.pair k30 (Kd.pair (Kd.int .i64) (Kd.pair (Kd.slice 5 (Kd.int .u8)) (Kd.slice 4 Kd.bool)))))))))))) (fun x : S34 => (x.f0, x.f1, x.f2, x.f3, x.f4, x.f5, x.f6, x.f7, x.f8, x.f9, x.f10, x.f11))
theorem k34_open {w : World} {x : S34} {cs : List Value} (h : k34.K w x cs) : ∃ A4 c4 A11 c11 A12 c12, cs = [.int .i64 x.f0, .int .i64 x.f1, .int .i64 x.f2, .int .i64 x.f3, .slice A4 x.f4.length c4, .int .u32 x.f5, .int .u32 x.f6, .int .u32 x.f7, .int .u64 x.f8.f0, .int .u64 x.f8.f1, .int .i64 x.f9, .slice A11 x.f10.length c11, .slice A12 x.f11.length c12] /\ x.f4.length <= c4 /\ k74.C w A4 x.f4.length x.f4 /\ x.f10.length <= c11 /\ (Kd.int .u8).C w A11 x.f10.length x.f10 /\ x.f11.length <= c12 /\ Kd.bool.C w A12 x.f11.length x.f11 := by
 obtain ⟨_, _, rfl, rfl, ⟨_, _, rfl, rfl, ⟨_, _, rfl, rfl, ⟨_, _, rfl, rfl, ⟨_, _, rfl, ⟨A4, c4, rfl, l4, g4⟩, ⟨_, _, rfl, rfl, ⟨_, _, rfl, rfl, ⟨_, _, rfl, rfl, ⟨_, _, rfl, s8, ⟨_, _, rfl, rfl, ⟨_, _, rfl, ⟨A11, c11, rfl, l11, g11⟩, ⟨A12, c12, rfl, l12, g12⟩⟩⟩⟩⟩⟩⟩⟩⟩⟩⟩⟩ := h
 obtain rfl := k30_open s8
 exact ⟨A4, c4, A11, c11, A12, c12, rfl, l4, g4, l11, g11, l12, g12⟩
theorem k34_mk (w : World) (x : S34) {A4 : Option Addr} {c4 : Nat} (l4 : x.f4.length <= c4) (g4 : k74.C w A4 x.f4.length x.f4) {A11 : Option Addr} {c11 : Nat} (l11 : x.f10.length <= c11) (g11 : (Kd.int .u8).C w A11 x.f10.length x.f10) {A12 : Option Addr} {c12 : Nat} (l12 : x.f11.length <= c12) (g12 : Kd.bool.C w A12 x.f11.length x.f11) : k34.K w x [.int .i64 x.f0, .int .i64 x.f1, .int .i64 x.f2, .int .i64 x.f3, .slice A4 x.f4.length c4, .int .u32 x.f5, .int .u32 x.f6, .int .u32 x.f7, .int .u64 x.f8.f0, .int .u64 x.f8.f1, .int .i64 x.f9, .slice A11 x.f10.length c11, .slice A12 x.f11.length c12] := ⟨[.int .i64 x.f0], [.int .i64 x.f1, .int .i64 x.f2, .int .i64 x.f3, .slice A4 x.f4.length c4, .int .u32 x.f5, .int .u32 x.f6, .int .u32 x.f7, .int .u64 x.f8.f0, .int .u64 x.f8.f1, .int .i64 x.f9, .slice A11 x.f10.length c11, .slice A12 x.f11.length c12], rfl, rfl, ⟨[.int .i64 x.f1], [.int .i64 x.f2, .int .i64 x.f3, .slice A4 x.f4.length c4, .int .u32 x.f5, .int .u32 x.f6, .int .u32 x.f7, .int .u64 x.f8.f0, .int .u64 x.f8.f1, .int .i64 x.f9, .slice A11 x.f10.length c11, .slice A12 x.f11.length c12], rfl, rfl, ⟨[.int .i64 x.f2], [.int .i64 x.f3, .slice A4 x.f4.length c4, .int .u32 x.f5, .int .u32 x.f6, .int .u32 x.f7, .int .u64 x.f8.f0, .int .u64 x.f8.f1, .int .i64 x.f9, .slice A11 x.f10.length c11, .slice A12 x.f11.length c12], rfl, rfl, ⟨[.int .i64 x.f3], [.slice A4 x.f4.length c4, .int .u32 x.f5, .int .u32 x.f6, .int .u32 x.f7, .int .u64 x.f8.f0, .int .u64 x.f8.f1, .int .i64 x.f9, .slice A11 x.f10.length c11, .slice A12 x.f11.length c12], rfl, rfl, ⟨[.slice A4 x.f4.length c4], [.int .u32 x.f5, .int .u32 x.f6, .int .u32 x.f7, .int .u64 x.f8.f0, .int .u64 x.f8.f1, .int .i64 x.f9, .slice A11 x.f10.length c11, .slice A12 x.f11.length c12], rfl, ⟨A4, c4, rfl, l4, g4⟩, ⟨[.int .u32 x.f5], [.int .u32 x.f6, .int .u32 x.f7, .int .u64 x.f8.f0, .int .u64 x.f8.f1, .int .i64 x.f9, .slice A11 x.f10.length c11, .slice A12 x.f11.length c12], rfl, rfl, ⟨[.int .u32 x.f6], [.int .u32 x.f7, .int .u64 x.f8.f0, .int .u64 x.f8.f1, .int .i64 x.f9, .slice A11 x.f10.length c11, .slice A12 x.f11.length c12], rfl, rfl, ⟨[.int .u32 x.f7], [.int .u64 x.f8.f0, .int .u64 x.f8.f1, .int .i64 x.f9, .slice A11 x.f10.length c11, .slice A12 x.f11.length c12], rfl, rfl, ⟨[.int .u64 x.f8.f0, .int .u64 x.f8.f1], [.int .i64 x.f9, .slice A11 x.f10.length c11, .slice A12 x.f11.length c12], rfl, (k30_mk w x.f8 ), ⟨[.int .i64 x.f9], [.slice A11 x.f10.length c11, .slice A12 x.f11.length c12], rfl, rfl, ⟨[.slice A11 x.f10.length c11], [.slice A12 x.f11.length c12], rfl, ⟨A11, c11, rfl, l11, g11⟩, ⟨A12, c12, rfl, l12, g12⟩⟩⟩⟩⟩⟩⟩⟩⟩⟩⟩⟩
def rd_T34 (xs : List S34) (i : Int) : S34 := xs.getD i.toNat z34
theorem at_T34 {w : World} {A : Option Addr} {n : Nat} {xs : List S34} (h : Kd.C k34 w A n xs) (i : Int) (h0 : 0 <= i) (h1 : i < n) : ∃ ad A4 c4 A11 c11 A12 c12, A = some ad /\ w.cell? (ad.add (i.toNat * 13)) = some (.int .i64 (rd_T34 xs i).f0) /\ w.cell? ⟨(ad.add (i.toNat * 13)).block, (ad.add (i.toNat * 13)).off + 1, none⟩ = some (.int .i64 (rd_T34 xs i).f1) /\ w.cell? ⟨(ad.add (i.toNat * 13)).block, (ad.add (i.toNat * 13)).off + 2, none⟩ = some (.int .i64 (rd_T34 xs i).f2) /\ w.cell? ⟨(ad.add (i.toNat * 13)).block, (ad.add (i.toNat * 13)).off + 3, none⟩ = some (.int .i64 (rd_T34 xs i).f3) /\ w.cell? ⟨(ad.add (i.toNat * 13)).block, (ad.add (i.toNat * 13)).off + 4, none⟩ = some (.slice A4 (rd_T34 xs i).f4.length c4) /\ w.cell? ⟨(ad.add (i.toNat * 13)).block, (ad.add (i.toNat * 13)).off + 5, none⟩ = some (.int .u32 (rd_T34 xs i).f5) /\ w.cell? ⟨(ad.add (i.toNat * 13)).block, (ad.add (i.toNat * 13)).off + 6, none⟩ = some (.int .u32 (rd_T34 xs i).f6) /\ w.cell? ⟨(ad.add (i.toNat * 13)).block, (ad.add (i.toNat * 13)).off + 7, none⟩ = some (.int .u32 (rd_T34 xs i).f7) /\ w.cell? ⟨(ad.add (i.toNat * 13)).block, (ad.add (i.toNat * 13)).off + 8, none⟩ = some (.int .u64 (rd_T34 xs i).f8.f0) /\ w.cell? ⟨(ad.add (i.toNat * 13)).block, (ad.add (i.toNat * 13)).off + 9, none⟩ = some (.int .u64 (rd_T34 xs i).f8.f1) /\ w.cell? ⟨(ad.add (i.toNat * 13)).block, (ad.add (i.toNat * 13)).off + 10, none⟩ = some (.int .i64 (rd_T34 xs i).f9) /\ w.cell? ⟨(ad.add (i.toNat * 13)).block, (ad.add (i.toNat * 13)).off + 11, none⟩ = some (.slice A11 (rd_T34 xs i).f10.length c11) /\ w.cell? ⟨(ad.add (i.toNat * 13)).block, (ad.add (i.toNat * 13)).off + 12, none⟩ = some (.slice A12 (rd_T34 xs i).f11.length c12) /\ (rd_T34 xs i).f4.length <= c4 /\ k74.C w A4 (rd_T34 xs i).f4.length (rd_T34 xs i).f4 /\ (rd_T34 xs i).f10.length <= c11 /\ (Kd.int .u8).C w A11 (rd_T34 xs i).f10.length (rd_T34 xs i).f10 /\ (rd_T34 xs i).f11.length <= c12 /\ Kd.bool.C w A12 (rd_T34 xs i).f11.length (rd_T34 xs i).f11 := by
 obtain ⟨ad, c, e, _, hK, hc0⟩ := Kd.C_get h z34 i h0 h1
 have hc : ∀ j u, c[j]? = some u -> w.cell? (ad.add (i.toNat * 13 + j)) = some u := hc0
 obtain ⟨A4, c4, A11, c11, A12, c12, rfl, l4, g4, l11, g11, l12, g12⟩ := k34_open hK
 exact ⟨ad, A4, c4, A11, c11, A12, c12, e, hc 0 _ rfl, by rw [<- add_field _ _ 1 (by omega)]; exact hc 1 _ rfl, by rw [<- add_field _ _ 2 (by omega)]; exact hc 2 _ rfl, by rw [<- add_field _ _ 3 (by omega)]; exact hc 3 _ rfl, by rw [<- add_field _ _ 4 (by omega)]; exact hc 4 _ rfl, by rw [<- add_field _ _ 5 (by omega)]; exact hc 5 _ rfl, by rw [<- add_field _ _ 6 (by omega)]; exact hc 6 _ rfl, by rw [<- add_field _ _ 7 (by omega)]; exact hc 7 _ rfl, by rw [<- add_field _ _ 8 (by omega)]; exact hc 8 _ rfl, by rw [<- add_field _ _ 9 (by omega)]; exact hc 9 _ rfl, by rw [<- add_field _ _ 10 (by omega)]; exact hc 10 _ rfl, by rw [<- add_field _ _ 11 (by omega)]; exact hc 11 _ rfl, by rw [<- add_field _ _ 12 (by omega)]; exact hc 12 _ rfl, l4, g4, l11, g11, l12, g12⟩
/-! #### struct type 25 -/
structure S25 where
 f0 : Int
 f1 : Int
 f2 : (List ByteArray)
 f3 : (List S34)
def k25 : Kd S25 := Kd.iso (Kd.pair (Kd.int .i64) (Kd.pair (Kd.int .i64) (Kd.pair (Kd.slice 9 Kd.string) (Kd.slice 34 k34)))) (fun x : S25 => (x.f0, x.f1, x.f2, x.f3))
theorem k25_open {w : World} {x : S25} {cs : List Value} (h : k25.K w x cs) : ∃ A2 c2 A3 c3, cs = [.int .i64 x.f0, .int .i64 x.f1, .slice A2 x.f2.length c2, .slice A3 x.f3.length c3] /\ x.f2.length <= c2 /\ Kd.string.C w A2 x.f2.length x.f2 /\ x.f3.length <= c3 /\ k34.C w A3 x.f3.length x.f3 := by
 obtain ⟨_, _, rfl, rfl, ⟨_, _, rfl, rfl, ⟨_, _, rfl, ⟨A2, c2, rfl, l2, g2⟩, ⟨A3, c3, rfl, l3, g3⟩⟩⟩⟩ := h
 exact ⟨A2, c2, A3, c3, rfl, l2, g2, l3, g3⟩
theorem k25_mk (w : World) (x : S25) {A2 : Option Addr} {c2 : Nat} (l2 : x.f2.length <= c2) (g2 : Kd.string.C w A2 x.f2.length x.f2) {A3 : Option Addr} {c3 : Nat} (l3 : x.f3.length <= c3) (g3 : k34.C w A3 x.f3.length x.f3) : k25.K w x [.int .i64 x.f0, .int .i64 x.f1, .slice A2 x.f2.length c2, .slice A3 x.f3.length c3] := ⟨[.int .i64 x.f0], [.int .i64 x.f1, .slice A2 x.f2.length c2, .slice A3 x.f3.length c3], rfl, rfl, ⟨[.int .i64 x.f1], [.slice A2 x.f2.length c2, .slice A3 x.f3.length c3], rfl, rfl, ⟨[.slice A2 x.f2.length c2], [.slice A3 x.f3.length c3], rfl, ⟨A2, c2, rfl, l2, g2⟩, ⟨A3, c3, rfl, l3, g3⟩⟩⟩⟩
theorem hbS {b : Nat} {w w' : World} (h : Below b w w' := by repeat (first | (with_reducible first | exact HB.out | apply below_alloc | apply pw_below_drewN | apply below_drew1) | exact HB.out)) : Below b w w' := h
end Go.Proofs.YtpdinahdcedmkaaGreatDoor.P
-- Written by this session's program xprint.py; not trusted: Lean checks it.
namespace Go.Proofs.YtpdinahdcedmkaaGreatDoor.P
open Go.Proofs.YtpdinahdcedmkaaGreatDoor.Ext hiding blk_cell blk_set nums_append
open Go.RowKit Go.Proofs.YtpdinahdcedmkaaGreatDoorW.PrintWords Go.Proofs.YtpdinahdcedmkaaGreatDoorW.PrintLast Go.Proofs.YtpdinahdcedmkaaGreatDoorW.PrintMore
attribute [local go_sem] max2_int min2_int max_two min_two max_three min_three max_four min_four   -- for this text's walks alone
set_option linter.unusedVariables false
set_option linter.unusedSimpArgs false
/-! ### liveryref01_Equal: function 41 -/
def liveryref01_Equal.f (l0 : List Int) (l1 : List Int) : Option (Bool) := some ((strOfNums l0).toList == (strOfNums l1).toList)
theorem liveryref01_Equal.calls (A0 : Option Addr) (c0 : Nat) (l0 : List Int) (A1 : Option Addr) (c1 : Nat) (l1 : List Int) (r : Bool) (w : World) (hr0 : Kd.C (Kd.int .u8) w A0 l0.length l0) (hc0 : l0.length <= c0) (hr1 : Kd.C (Kd.int .u8) w A1 l1.length l1) (hc1 : l1.length <= c1) (h : liveryref01_Equal.f l0 l1 = some r) :
 Calls Tryz.prog 41 #[.slice A0 l0.length c0, .slice A1 l1.length c1] w fun e w' => e = .returned (.bool r) /\ Drawn0 w w' := by
 have HR0 := Zz.mk hr0
 have HC0 := Zz.mk hc0
 clear hr0 hc0
 have HR1 := Zz.mk hr1
 have HC1 := Zz.mk hc1
 clear hr1 hc1
 have H : (some ((strOfNums l0).toList == (strOfNums l1).toList)) = some r := h
 clear h
 obtain rfl := Option.some.inj H
 have hcv3 := Kd.C_string (P := Tryz.prog) (A := A0) (c := c0) Tryz.underlying31 Tryz.underlying5 Tryz.underlying9 HR0.out
 have hcv4 := Kd.C_string (P := Tryz.prog) (A := A1) (c := c1) Tryz.underlying31 Tryz.underlying5 Tryz.underlying9 HR1.out
 go_enter Tryz.func41, Tryz.ntmps41
 go_wp2
 go_ret
 exact ⟨by first | rfl | (simp; done) | (simp [*]; done), by repeat (first | exact Drawn0.refl _ | apply Drawn0.step)⟩
/-! ### octet_Hex: function 109 -/
def octet_Hex.l0 : Nat -> List Int -> List Int -> Int -> Int -> Option (ByteArray)
 | 0, _, _, _, _ => none
 | k + 1, x3, x10, x11, x12 => if x12 < x11 then (if 0 <= x12 then (if x12 < (x10.length : Int) then (if 0 <= ((rd x10 x12) / 16) then (if ((rd x10 x12) / 16) < 16 then (if 0 <= (Go.bits .and .u8 (rd x10 x12) 15) then (if (Go.bits .and .u8 (rd x10 x12) 15) < 16 then ((some (([bt (⟨#[48, 49, 50, 51, 52, 53, 54, 55, 56, 57, 97, 98, 99, 100, 101, 102]⟩ : ByteArray) ((rd x10 x12) / 16), bt (⟨#[48, 49, 50, 51, 52, 53, 54, 55, 56, 57, 97, 98, 99, 100, 101, 102]⟩ : ByteArray) (Go.bits .and .u8 (rd x10 x12) 15)] : List Int) : List Int)).bind fun y108 => (if x3.length + y108.length < 140737488355328 then (octet_Hex.l0 k (x3 ++ y108) x10 x11 (wrap64 (x12 + 1))) else (none))) else (none)) else (none)) else (none)) else (none)) else (none)) else (none)) else (some (strOfNums x3))
def octet_Hex.f (k : Nat) (l0 : List Int) : Option (ByteArray) := if 0 <= (wrap64 (2 * (l0.length : Int))) then (if (wrap64 (2 * (l0.length : Int)) : Int).toNat <= 281474976710656 then (octet_Hex.l0 k (([] : List Int)) l0 (l0.length : Int) 0) else (none)) else (none)
def octet_Hex.T5 : Bool × List (List Nat × List Nat) := (true, [([], []), ([], []), ([1], [1]), ([2], [2]), ([], []), ([4], [4]), ([5], [5]), ([3, 6], [3, 6]), ([0, 7], [0, 7]), ([8, 8, 0, 1, 2, 3, 4, 5, 6, 7, 8], [0, 8])])
def octet_Hex.B5 : List Nat := [0, 0, 2, 6, 0, 16, 48, 126, 255, 511]
theorem octet_Hex.tab5 : rtab .any (opsOf Tryz.f109 5) = octet_Hex.T5 := by kernel_rfl
theorem octet_Hex.bits5 : waitsOk octet_Hex.T5.2 octet_Hex.B5 = true := by kernel_rfl
theorem octet_Hex.calls (k : Nat) (A0 : Option Addr) (c0 : Nat) (l0 : List Int) (r : ByteArray) (w : World) (hr0 : Kd.C (Kd.int .u8) w A0 l0.length l0) (hc0 : l0.length <= c0) (h : octet_Hex.f k l0 = some r) :
 Calls Tryz.prog 109 #[.slice A0 l0.length c0] w fun e w' => e = .returned (.string r) /\ Below w.heap.size w w' := by
 have HR0 := Zz.mk hr0
 have HC0 := Zz.mk hc0
 clear hr0 hc0
 have HB := Zz.mk (Below.refl w.heap.size w)
 have H : (if 0 <= (wrap64 (2 * (l0.length : Int))) then (if (wrap64 (2 * (l0.length : Int)) : Int).toNat <= 281474976710656 then (octet_Hex.l0 k (([] : List Int)) l0 (l0.length : Int) 0) else (none)) else (none)) = some r := h
 clear h
 obtain ⟨ji2, hji2⟩ : ∃ j_ : Int, (wrap64 (2 * (l0.length : Int))) = j_ := ⟨_, rfl⟩
 replace H : (if 0 <= (ji2) then (if (ji2 : Int).toNat <= 281474976710656 then (octet_Hex.l0 k (([] : List Int)) l0 (l0.length : Int) 0) else (none)) else (none)) = some r := by first | (rw [hji2] at H; exact H) | (simp only [hji2] at H ⊢; exact H)
 have hji2w : (IntKind.i64.wrap (2 * (l0.length : Int))) = ji2 := (i64_w _).trans hji2
 by_cases c3 : 0 <= (ji2)
 · rw [if_pos c3] at H
   have c3b0 := eq_true c3
   have c3b1 : decide (0 <= (ji2)) = true := decide_eq_true c3
   clear c3
   by_cases c4 : (ji2 : Int).toNat <= 281474976710656
   · rw [if_pos c4] at H
     have c4b0 := eq_true c4
     have c4b1 : decide ((ji2 : Int).toNat <= 281474976710656) = true := decide_eq_true c4
     clear c4
     obtain ⟨y104, hy104⟩ : ∃ y_ : List Int, y_ = (([] : List Int)) := ⟨_, rfl⟩
     replace H : (octet_Hex.l0 k y104 l0 (l0.length : Int) 0) = some r := by first | (rw [hy104]; with_reducible exact H) | (have H2_ := (Option.bind_some _ _).symm.trans H; rw [hy104]; with_reducible exact H2_) | (have H2_ := (Option.bind_some _ _).symm.trans H; with_reducible exact H2_) | with_reducible exact H | (rw [hy104]; exact H) | exact H
     have Ny104 := Zz.mk hy104
     clear hy104
     have H' := Zz.mk H
     clear H
     go_enter Tryz.func109, Tryz.ntmps109
     go_wp2_with (first | ((with_reducible refine gate_dst (N := 9) rfl ?_); refine Kd.R_make0 (Kd.int .u8) _ 5 rfl (N := 9) rfl 31 _ _ rfl ji2 rfl rfl Tryz.underlying31 (.int .u8 0) 1 info5 rfl (by decide) (by omega) (ok := fun _ => True) (fun _ => trivial) (of_decide_eq_true (by first | (with_reducible assumption) | assumption)) (Nat.le_trans (Nat.mul_le_mul_right _ (of_decide_eq_true (by first | (with_reducible assumption) | assumption) : ji2.toNat <= 281474976710656)) (by omega)) (Below.refl _ _) (Nat.le_refl _) ?_; intro v105 w5 ho6 hb hg_ hnew_; clear hg_ hnew_; (first | rw [<- Ny104.out] at ho6 | (simp only [Int.reduceToNat] at ho6; rw [<- Ny104.out] at ho6)); have n0_ := Zz.mk (Kd.R_lower ho6 (below_size hbS)); have n1_ := Zz.mk (below_step hbS hb); clear HB; have HO106 := n0_; have HB := n1_; clear n0_ n1_; clear hb ho6))
     go_loopg [3, 12] k (fun kq v3 v12 w' => ∃ (x3_1 : List Int) (x12_1 : Int), v12 = .int .i64 x12_1 /\ Zz (octet_Hex.l0 kq x3_1 l0 (l0.length : Int) x12_1 = some r) /\ Zz (kq <= k) /\ Zz (Kd.R (Kd.int .u8) 5 w' w.heap.size (fun _ => True) v3 x3_1) /\ Zz (Below w.heap.size w w'))
     case atStart => exact ⟨(y104), (0), (by first | rfl | (simp; done) | (simp [*]; done)), H', ⟨Nat.le_refl _⟩, ⟨by (with_reducible repeat (first | apply Kd.R_alloc | apply Kd.R_drewN | apply Kd.R_drew)); exact HO106.out⟩, ⟨hbS⟩⟩
     case round =>
      clear H'
      try clear c1
      try clear p2
      try clear c3
      try clear c3b0
      try clear c3b1
      try clear c4
      try clear c4b0
      try clear c4b1
      try clear p6
      obtain ⟨x3_1, x12_1, rfl, HA, HK1, HO_3, HB⟩ := hrel
      cases gk with
      | zero => exact absurd HA.out (by simp [octet_Hex.l0])
      | succ k1 =>
        have H := HA.out
        clear HA
        simp only [octet_Hex.l0] at H
        by_cases c7 : x12_1 < (l0.length : Int)
        · rw [if_pos c7] at H
          have c7b0 : decide (x12_1 < (l0.length : Int)) = true := decide_eq_true c7
          clear c7
          by_cases c8 : 0 <= x12_1
          · rw [if_pos c8] at H
            have c8b0 : decide (0 <= x12_1) = true := decide_eq_true c8
            clear c8
            by_cases c9 : x12_1 < (l0.length : Int)
            · rw [if_pos c9] at H
              have c9b0 : decide (x12_1 < (l0.length : Int)) = true := decide_eq_true c9
              clear c9
              obtain ⟨ji10, hji10⟩ : ∃ j_ : Int, ((rd l0 x12_1) / 16) = j_ := ⟨_, rfl⟩
              replace H : (if 0 <= (ji10) then (if (ji10) < 16 then (if 0 <= (Go.bits .and .u8 (rd l0 x12_1) 15) then (if (Go.bits .and .u8 (rd l0 x12_1) 15) < 16 then ((some (([bt (⟨#[48, 49, 50, 51, 52, 53, 54, 55, 56, 57, 97, 98, 99, 100, 101, 102]⟩ : ByteArray) (ji10), bt (⟨#[48, 49, 50, 51, 52, 53, 54, 55, 56, 57, 97, 98, 99, 100, 101, 102]⟩ : ByteArray) (Go.bits .and .u8 (rd l0 x12_1) 15)] : List Int) : List Int)).bind fun y108 => (if x3_1.length + y108.length < 140737488355328 then (octet_Hex.l0 k1 (x3_1 ++ y108) l0 (l0.length : Int) (wrap64 (x12_1 + 1))) else (none))) else (none)) else (none)) else (none)) else (none)) = some r := by first | (rw [hji10] at H; exact H) | (simp only [hji10] at H ⊢; exact H)
              by_cases c11 : 0 <= (ji10)
              · rw [if_pos c11] at H
                have c11b0 : decide (0 <= (ji10)) = true := decide_eq_true c11
                clear c11
                by_cases c12 : (ji10) < 16
                · rw [if_pos c12] at H
                  have c12b0 : decide ((ji10) < 16) = true := decide_eq_true c12
                  clear c12
                  by_cases c14 : 0 <= (Go.bits .and .u8 (rd l0 x12_1) 15)
                  · rw [if_pos c14] at H
                    have c14b0 : decide (0 <= (Go.bits .and .u8 (rd l0 x12_1) 15)) = true := decide_eq_true c14
                    clear c14
                    by_cases c15 : (Go.bits .and .u8 (rd l0 x12_1) 15) < 16
                    · rw [if_pos c15] at H
                      have c15b0 : decide ((Go.bits .and .u8 (rd l0 x12_1) 15) < 16) = true := decide_eq_true c15
                      clear c15
                      obtain ⟨y108, hy108⟩ : ∃ y_ : List Int, y_ = (([bt (⟨#[48, 49, 50, 51, 52, 53, 54, 55, 56, 57, 97, 98, 99, 100, 101, 102]⟩ : ByteArray) (ji10), bt (⟨#[48, 49, 50, 51, 52, 53, 54, 55, 56, 57, 97, 98, 99, 100, 101, 102]⟩ : ByteArray) (Go.bits .and .u8 (rd l0 x12_1) 15)] : List Int)) := ⟨_, rfl⟩
                      replace H : (if x3_1.length + y108.length < 140737488355328 then (octet_Hex.l0 k1 (x3_1 ++ y108) l0 (l0.length : Int) (wrap64 (x12_1 + 1))) else (none)) = some r := by first | (rw [hy108]; with_reducible exact H) | (have H2_ := (Option.bind_some _ _).symm.trans H; rw [hy108]; with_reducible exact H2_) | (have H2_ := (Option.bind_some _ _).symm.trans H; with_reducible exact H2_) | with_reducible exact H | (rw [hy108]; exact H) | exact H
                      have Ny108 := Zz.mk hy108
                      clear hy108
                      by_cases c17 : x3_1.length + y108.length < 140737488355328
                      · rw [if_pos c17] at H
                        have LMc17 := Zz.mk c17
                        clear c17
                        obtain ⟨y111, hy111⟩ : ∃ y_ : List Int, y_ = (x3_1 ++ y108) := ⟨_, rfl⟩
                        replace H : (octet_Hex.l0 k1 y111 l0 (l0.length : Int) (wrap64 (x12_1 + 1))) = some r := by first | (rw [hy111]; with_reducible exact H) | (have H2_ := (Option.bind_some _ _).symm.trans H; rw [hy111]; with_reducible exact H2_) | (have H2_ := (Option.bind_some _ _).symm.trans H; with_reducible exact H2_) | with_reducible exact H | (rw [hy111]; exact H) | exact H
                        have Ny111 := Zz.mk hy111
                        clear hy111
                        have H' := Zz.mk H
                        clear H
                        have p107 : 0 <= (x12_1 : Int) := of_decide_eq_true (by first | (with_reducible assumption) | assumption)
                        have q107 : x12_1 < (l0.length : Int) := of_decide_eq_true (by first | (with_reducible assumption) | assumption)
                        obtain ⟨ad107, e107, hx107_0⟩ := Kd.at_int HR0.out x12_1 p107 q107
                        cases e107
                        replace hx107_0 := (HB.out.cell (World.block_lt_of_cell? w _ hx107_0)).trans hx107_0
                        replace p107 := eq_true p107
                        replace q107 := eq_true q107
                        try go_wp2
                        have n0_ := Zz.mk (Kd.R_drew HO_3.out)
                        have n1_ := Zz.mk (below_drew1 HB.out)
                        clear HO_3
                        clear HB
                        have HO_3 := n0_
                        have HB := n1_
                        clear n0_ n1_
                        have p13 : 0 <= ((ji10) : Int) := of_decide_eq_true (by first | (with_reducible assumption) | assumption)
                        have q13 : (ji10) < (16 : Int) := of_decide_eq_true (by first | (with_reducible assumption) | assumption)
                        have hx13 := bt_at (⟨#[48, 49, 50, 51, 52, 53, 54, 55, 56, 57, 97, 98, 99, 100, 101, 102]⟩ : ByteArray) (ji10)
                        replace p13 := eq_true p13
                        replace q13 := eq_true q13
                        have p16 : 0 <= ((Go.bits .and .u8 (rd l0 x12_1) 15) : Int) := of_decide_eq_true (by first | (with_reducible assumption) | assumption)
                        have q16 : (Go.bits .and .u8 (rd l0 x12_1) 15) < (16 : Int) := of_decide_eq_true (by first | (with_reducible assumption) | assumption)
                        have hx16 := bt_at (⟨#[48, 49, 50, 51, 52, 53, 54, 55, 56, 57, 97, 98, 99, 100, 101, 102]⟩ : ByteArray) (Go.bits .and .u8 (rd l0 x12_1) 15)
                        replace p16 := eq_true p16
                        replace q16 := eq_true q16
                        refine start_ (n := 10) (S := fun w' => True) (ds := []) #[false, false, false, false, false, false, false, false, false, false] (by kernel_rfl) rfl rfl trivial (fun hHeld => ?_); refine with_tabW octet_Hex.tab5 octet_Hex.bits5 (fun HT_ HW_ => ?_)
                        generalize wr.drew = w18 at HO_3 HB hHeld ⊢
                        refine pure_ (i := 0) (N := some 16) (v := ?_) (a' := ?_) #[true, false, false, false, false, false, false, false, false, false] rfl rfl (any_of HT_.out (by kernel_rfl)) (fun _ _ _ h => h) (Or.inl ⟨by rfl, ?_⟩) ?_ ?_
                        rotate_left
                        · intro w'
                          go_simp
                          with_reducible rfl
                        rotate_left
                        · simp only [Act.put, List.setIfInBounds_toArray, List.set_cons_zero, List.set_cons_succ, i64_w, i32_w]
                          rfl
                        refine pure_ (i := 1) (N := some 17) (v := ?_) (a' := ?_) #[true, true, false, false, false, false, false, false, false, false] rfl rfl (any_of HT_.out (by kernel_rfl)) (fun _ _ _ h => h) (Or.inl ⟨by rfl, ?_⟩) ?_ ?_
                        rotate_left
                        · intro w'
                          go_simp
                          with_reducible rfl
                        rotate_left
                        · simp only [Act.put, List.setIfInBounds_toArray, List.set_cons_zero, List.set_cons_succ, i64_w, i32_w]
                          rfl
                        refine pure_ (i := 2) (N := some 18) (v := ?_) (a' := ?_) #[true, true, true, false, false, false, false, false, false, false] rfl rfl (any_of HT_.out (by kernel_rfl)) (fun _ _ _ h => h) (Or.inl ⟨by rfl, ?_⟩) ?_ ?_
                        rotate_left
                        · intro w'
                          go_simp
                          with_reducible rfl
                        rotate_left
                        · simp only [Act.put, List.setIfInBounds_toArray, List.set_cons_zero, List.set_cons_succ, i64_w, i32_w]
                          rfl
                        refine pure_ (i := 4) (N := some 20) (v := ?_) (a' := ?_) #[true, true, true, false, true, false, false, false, false, false] rfl rfl (any_of HT_.out (by kernel_rfl)) (fun _ _ _ h => h) (Or.inl ⟨by rfl, ?_⟩) ?_ ?_
                        rotate_left
                        · intro w'
                          go_simp
                          with_reducible rfl
                        rotate_left
                        · simp only [Act.put, List.setIfInBounds_toArray, List.set_cons_zero, List.set_cons_succ, i64_w, i32_w]
                          rfl
                        refine pure_ (i := 5) (N := some 21) (v := ?_) (a' := ?_) #[true, true, true, false, true, true, false, false, false, false] rfl rfl (any_of HT_.out (by kernel_rfl)) (fun _ _ _ h => h) (Or.inl ⟨by rfl, ?_⟩) ?_ ?_
                        rotate_left
                        · intro w'
                          go_simp
                          with_reducible rfl
                        rotate_left
                        · simp only [Act.put, List.setIfInBounds_toArray, List.set_cons_zero, List.set_cons_succ, i64_w, i32_w]
                          rfl
                        refine take_ (i := 3) (N := some 19) (v := ?_) (a' := ?_) #[true, true, true, true, true, true, false, false, false, false] rfl rfl (take_ofW HT_.out HW_.out (by kernel_rfl)) (fun _ _ _ h => h) (Or.inl ⟨by rfl, ?_⟩) hHeld ?_ ?_
                        rotate_left
                        · intro w' _
                          go_simp
                          with_reducible rfl
                        rotate_left
                        · simp only [Act.put, List.setIfInBounds_toArray, List.set_cons_zero, List.set_cons_succ, i64_w, i32_w]
                          rfl
                        refine take_ (i := 6) (N := some 22) (v := ?_) (a' := ?_) #[true, true, true, true, true, true, true, false, false, false] rfl rfl (take_ofW HT_.out HW_.out (by kernel_rfl)) (fun _ _ _ h => h) (Or.inl ⟨by rfl, ?_⟩) hHeld ?_ ?_
                        rotate_left
                        · intro w' _
                          go_simp
                          with_reducible rfl
                        rotate_left
                        · simp only [Act.put, List.setIfInBounds_toArray, List.set_cons_zero, List.set_cons_succ, i64_w, i32_w]
                          rfl
                        refine one_ (i := 7) (N := some 23) #[true, true, true, true, true, true, true, true, false, false] rfl rfl (one_of HT_.out (by kernel_rfl)) (by decide) (fun K hK => ?_)
                        refine Kd.R_lit_step (Kd.int .u8) _ 5 ?hg (N := 23) ?hd (xs := ([bt (⟨#[48, 49, 50, 51, 52, 53, 54, 55, 56, 57, 97, 98, 99, 100, 101, 102]⟩ : ByteArray) (ji10), bt (⟨#[48, 49, 50, 51, 52, 53, 54, 55, 56, 57, 97, 98, 99, 100, 101, 102]⟩ : ByteArray) (Go.bits .and .u8 (rd l0 x12_1) 15)] : List Int)) (inner := [.int .u8 (bt (⟨#[48, 49, 50, 51, 52, 53, 54, 55, 56, 57, 97, 98, 99, 100, 101, 102]⟩ : ByteArray) (ji10)), .int .u8 (bt (⟨#[48, 49, 50, 51, 52, 53, 54, 55, 56, 57, 97, 98, 99, 100, 101, 102]⟩ : ByteArray) (Go.bits .and .u8 (rd l0 x12_1) 15))]) (ok := fun _ => True) (okp := fun _ => True) ?hr ?hp (fun _ hk => hk) trivial (Below.refl _ _) (Nat.le_refl _) (by simp) ?_; (case hd => rfl); (case hg => rfl); (case hr => first | (go_simp; done) | (go_simp; rfl)); (case hp => exact (Reps.one (show Kd.M (Kd.int .u8) _ _ _ (bt (⟨#[48, 49, 50, 51, 52, 53, 54, 55, 56, 57, 97, 98, 99, 100, 101, 102]⟩ : ByteArray) (ji10)) [.int .u8 (bt (⟨#[48, 49, 50, 51, 52, 53, 54, 55, 56, 57, 97, 98, 99, 100, 101, 102]⟩ : ByteArray) (ji10))] from rfl) (Reps.one (show Kd.M (Kd.int .u8) _ _ _ (bt (⟨#[48, 49, 50, 51, 52, 53, 54, 55, 56, 57, 97, 98, 99, 100, 101, 102]⟩ : ByteArray) (Go.bits .and .u8 (rd l0 x12_1) 15)) [.int .u8 (bt (⟨#[48, 49, 50, 51, 52, 53, 54, 55, 56, 57, 97, 98, 99, 100, 101, 102]⟩ : ByteArray) (Go.bits .and .u8 (rd l0 x12_1) 15))] from rfl) (Reps.none _ _))))
                        intro v109 w19 ho20 hb hg_ hnew_
                        clear hg_ hnew_
                        (first | rw [<- Ny108.out] at ho20 | (simp only [Int.reduceToNat] at ho20; rw [<- Ny108.out] at ho20))
                        have n0_ := Zz.mk (Kd.R_elder' (by (with_reducible repeat (first | apply Kd.R_alloc | apply Kd.R_drewN | apply Kd.R_drew)); exact HO_3.out) (Kd.R_base ho20) hb)
                        have n1_ := Zz.mk (Kd.R_lower (Kd.R_new' ho20 (Kd.R_lt (by (with_reducible repeat (first | apply Kd.R_alloc | apply Kd.R_drewN | apply Kd.R_drew)); exact HO_3.out))) (below_size hbS))
                        have n2_ := Zz.mk (below_step hbS hb)
                        clear HO_3
                        clear HB
                        have HO_3 := n0_
                        have HO110 := n1_
                        have HB := n2_
                        clear n0_ n1_ n2_
                        clear hb ho20
                        obtain ⟨Ao22, co22, eo22⟩ := Kd.R_slice HO110.out
                        (first | subst eo22 | (injection eo22 with f1_ f2_ f3_; have f4_ := f1_.symm; have f5_ := f3_.symm; clear f1_ f2_ f3_; subst f4_; subst f5_))
                        refine hK.out _ _ trivial (fun hHeld => ?_)
                        clear hK K
                        refine norm_ (a' := ?_) ?_ ?_
                        rotate_left
                        · show Act.put _ (some 23) _ = _
                          simp only [Act.put, List.setIfInBounds_toArray, List.set_cons_zero, List.set_cons_succ, i64_w, i32_w]
                          rfl
                        refine one_ (i := 8) (N := some 24) #[true, true, true, true, true, true, true, true, true, false] rfl rfl (one_of HT_.out (by kernel_rfl)) (by decide) (fun K hK => ?_)
                        refine Kd.R_append_rows_step (Kd.int .u8) (w0 := w) w.heap.size (by rfl) (.tmp 16) (.tmp 23) 31 5 (.int .u8 0) 1 rfl Tryz.underlying31 info5 rfl (by decide) (by omega) u3 x3_1 y108 _ _ _ (fun k_ => some k_ ≠ (.slice Ao22 y108.length co22 : Value).ownBlock) (fun _ => False) rfl rfl ?aO ?aR (fun _ _ h => h) (fun _ h => h.elim) ?aF ?aB ?aS ?aL ?_
                        (case aR => repeat (first | exact (Kd.R_reads' HO110.out).2.2 | (with_reducible refine Kd.C_alloc ?_ _) | (with_reducible refine Kd.C_drewN ?_ _) | (with_reducible refine Kd.C_drew ?_)))
                        (case aB => exact hbS)
                        (case aF => exact (fun k_ hk => Kd.fresh' (Kd.R_lt (by (with_reducible repeat (first | apply Kd.R_alloc | apply Kd.R_drewN | apply Kd.R_drew)); exact HO110.out)) k_ hk))
                        (case aO => exact (by (with_reducible repeat (first | apply Kd.R_alloc | apply Kd.R_drewN | apply Kd.R_drew)); exact Kd.R_mono HO_3.out (fun _ hk => hk.2)))
                        (case aS => exact (below_size hbS))
                        (case aL => have := LMc17.out; omega)
                        intro v112 w21 ho hb hg hat
                        rw [<- Ny111.out] at ho
                        have n0_ := Zz.mk (Kd.R_after (ok := (fun _ => True)) (by (with_reducible repeat (first | apply Kd.R_alloc | apply Kd.R_drewN | apply Kd.R_drew)); exact HO110.out) hg hat)
                        have n1_ := Zz.mk (hb)
                        have n2_ := Zz.mk (ho)
                        clear HO110
                        clear HB
                        clear HO_3
                        have HO110 := n0_
                        have HB := n1_
                        have HO113 := n2_
                        clear n0_ n1_ n2_
                        clear ho hb hg hat
                        refine hK.out _ _ trivial (fun hHeld => ?_)
                        clear hK K
                        refine norm_ (a' := ?_) ?_ ?_
                        rotate_left
                        · show Act.put _ (some 24) _ = _
                          simp only [Act.put, List.setIfInBounds_toArray, List.set_cons_zero, List.set_cons_succ, i64_w, i32_w]
                          rfl
                        refine pure_ (i := 9) (N := some 3) (v := ?_) (a' := ?_) #[true, true, true, true, true, true, true, true, true, true] rfl rfl (any_of HT_.out (by kernel_rfl)) (fun _ _ _ h => h) (Or.inl ⟨by rfl, ?_⟩) ?_ ?_
                        rotate_left
                        · intro w'
                          go_simp
                          with_reducible rfl
                        rotate_left
                        · simp only [Act.put, List.setIfInBounds_toArray, List.set_cons_zero, List.set_cons_succ, i64_w, i32_w]
                          rfl
                        refine done_ (done_of HT_.out (by kernel_rfl)) ?_
                        try go_wp2
                        go_roundg k1
                        case measure => have := HK1.out; omega
                        case rel => exact ⟨(y111), (wrap64 (x12_1 + 1)), (by first | rfl | (simp; done) | (simp [*]; done)), H', ⟨by have := HK1.out; omega⟩, ⟨by (with_reducible repeat (first | apply Kd.R_alloc | apply Kd.R_drewN | apply Kd.R_drew)); exact Kd.R_mono HO113.out (fun _ hk => trivial)⟩, ⟨hbS⟩⟩
                      · rw [if_neg c17] at H
                        exact absurd H (by simp)
                    · rw [if_neg c15] at H
                      exact absurd H (by simp)
                  · rw [if_neg c14] at H
                    exact absurd H (by simp)
                · rw [if_neg c12] at H
                  exact absurd H (by simp)
              · rw [if_neg c11] at H
                exact absurd H (by simp)
            · rw [if_neg c9] at H
              exact absurd H (by simp)
          · rw [if_neg c8] at H
            exact absurd H (by simp)
        · rw [if_neg c7] at H
          have c7b0 : decide (x12_1 < (l0.length : Int)) = false := decide_eq_false c7
          clear c7
          obtain rfl := Option.some.inj H
          have hcv23 := own_string (P := Tryz.prog) Tryz.underlying31 Tryz.underlying5 Tryz.underlying9 (Kd.own_of_R HO_3.out)
          go_wp2
          go_ret
          exact ⟨by first | rfl | (simp [errW_none, errW_some] <;> rfl) | (simp only [<- hji2]; first | rfl | (simp [errW_none, errW_some] <;> rfl)) | (simp [*, errW_none, errW_some] <;> rfl), hbS⟩
   · rw [if_neg c4] at H
     exact absurd H (by simp)
 · rw [if_neg c3] at H
   exact absurd H (by simp)
end Go.Proofs.YtpdinahdcedmkaaGreatDoor.P
namespace Go.Proofs.YtpdinahdcedmkaaGreatDoor.Ext
set_option linter.unusedVariables false
open Go.RowKit Go.Proofs.YtpdinahdcedmkaaGreatDoorW.PrintWords Go.Proofs.YtpdinahdcedmkaaGreatDoorW.PrintLast Go.Proofs.YtpdinahdcedmkaaGreatDoorW.PrintMore
theorem r_Name0 (d : Int) (w : World) : Calls Tryz.prog 29 #[.int .i64 d] w fun e w' => e = .returned (.string (rowOf d).1) /\ Below w.heap.size w w' := by
 by_cases h : 1 <= d /\ d <= 17
 · obtain rfl | rfl | rfl | rfl | rfl | rfl | rfl | rfl | rfl | rfl | rfl | rfl | rfl | rfl | rfl | rfl | rfl : d = 1 \/ d = 2 \/ d = 3 \/ d = 4 \/ d = 5 \/ d = 6 \/ d = 7 \/ d = 8 \/ d = 9 \/ d = 10 \/ d = 11 \/ d = 12 \/ d = 13 \/ d = 14 \/ d = 15 \/ d = 16 \/ d = 17 := by omega
   all_goals
    clear h
    go_enter Tryz.func29, Tryz.ntmps29
    go_wp2
    go_ret
    exact ⟨by kernel_rfl, (Below.refl _ _).alloc (Nat.le_refl _) _⟩
 · have e : (rowOf d).1 = ⟨#[]⟩ := by
    by_cases h0 : d = 0
    · subst h0; decide +kernel
    · unfold rowOf; rw [if_neg (by omega)]
   rw [e]
   obtain h1 | h2 : d < 1 \/ 17 < d := by omega
   · clear h e
     go_enter Tryz.func29, Tryz.ntmps29
     go_wp2
     go_ret
     exact ⟨rfl, (Below.refl _ _).alloc (Nat.le_refl _) _⟩
   · have h1 : ¬ d < 1 := by omega
     clear h e
     go_enter Tryz.func29, Tryz.ntmps29
     go_wp2
     go_ret
     exact ⟨rfl, (Below.refl _ _).alloc (Nat.le_refl _) _⟩
def liveryref27_Name.f (d : Int) : Option ByteArray := some (rowOf d).1
theorem liveryref27_Name.calls (d : Int) (r : ByteArray) (w : World) (h : liveryref27_Name.f d = some r) : Calls Tryz.prog 29 #[.int .i64 d] w fun e w' => e = .returned (.string r) /\ Below w.heap.size w w' := by
 obtain rfl := Option.some.inj h
 exact r_Name0 d w
theorem r_Has0 (d : Int) (w : World) : Calls Tryz.prog 30 #[.int .i64 d] w fun e w' => e = .returned (.string (rowOf d).2) /\ Below w.heap.size w w' := by
 by_cases h : 1 <= d /\ d <= 17
 · obtain rfl | rfl | rfl | rfl | rfl | rfl | rfl | rfl | rfl | rfl | rfl | rfl | rfl | rfl | rfl | rfl | rfl : d = 1 \/ d = 2 \/ d = 3 \/ d = 4 \/ d = 5 \/ d = 6 \/ d = 7 \/ d = 8 \/ d = 9 \/ d = 10 \/ d = 11 \/ d = 12 \/ d = 13 \/ d = 14 \/ d = 15 \/ d = 16 \/ d = 17 := by omega
   all_goals
    clear h
    go_enter Tryz.func30, Tryz.ntmps30
    go_wp2
    go_ret
    exact ⟨by kernel_rfl, (Below.refl _ _).alloc (Nat.le_refl _) _⟩
 · have e : (rowOf d).2 = ⟨#[]⟩ := by
    by_cases h0 : d = 0
    · subst h0; decide +kernel
    · unfold rowOf; rw [if_neg (by omega)]
   rw [e]
   obtain h1 | h2 : d < 1 \/ 17 < d := by omega
   · clear h e
     go_enter Tryz.func30, Tryz.ntmps30
     go_wp2
     go_ret
     exact ⟨rfl, (Below.refl _ _).alloc (Nat.le_refl _) _⟩
   · have h1 : ¬ d < 1 := by omega
     clear h e
     go_enter Tryz.func30, Tryz.ntmps30
     go_wp2
     go_ret
     exact ⟨rfl, (Below.refl _ _).alloc (Nat.le_refl _) _⟩
def liveryref27_Has.f (d : Int) : Option ByteArray := some (rowOf d).2
theorem liveryref27_Has.calls (d : Int) (r : ByteArray) (w : World) (h : liveryref27_Has.f d = some r) : Calls Tryz.prog 30 #[.int .i64 d] w fun e w' => e = .returned (.string r) /\ Below w.heap.size w w' := by
 obtain rfl := Option.some.inj h
 exact r_Has0 d w
end Go.Proofs.YtpdinahdcedmkaaGreatDoor.Ext
namespace Go.Proofs.YtpdinahdcedmkaaGreatDoor.Ext
open Go.Proofs.YtpdinahdcedmkaaGreatDoor.P
set_option linter.unusedVariables false
set_option linter.unusedSimpArgs false
open Go.RowKit Go.Proofs.YtpdinahdcedmkaaGreatDoorW.PrintWords Go.Proofs.YtpdinahdcedmkaaGreatDoorW.PrintLast Go.Proofs.YtpdinahdcedmkaaGreatDoorW.PrintMore
def runeHas (l : List (Nat × Nat × Nat)) (c : Int) : Bool := l.any fun x => decide ((x.2.1 : Int) = c)
def liveryref27_has.f (a0 a1 : Int) : Option Bool := (liveryref27_Has.f a0).bind fun T => some (runeHas (runesOf T) a1)
theorem liveryref27_has.calls (a0 a1 : Int) (r : Bool) (w : World) (h : liveryref27_has.f a0 a1 = some r) :
 Calls Tryz.prog 71 #[.int .i64 a0, .int .i32 a1] w fun e w' => e = .returned (.bool r) /\ Below w.heap.size w w' := by
 unfold liveryref27_has.f at h
 obtain ⟨T, hT, h⟩ := Option.bind_eq_some_iff.1 h
 have HN := Lib.hid (Option.some.inj h)
 clear h
 have ch := Lib.hid (liveryref27_Has.calls a0 T w hT)
 clear hT
 go_enter Tryz.func71, Tryz.ntmps71
 go_wp2_with (first
  | (go_at_call 30
     refine ch.out.mono ?_
     rintro e v ⟨rfl, hb⟩
     have HB0 := Zz.mk hb
     clear hb)
  | fail)
 go_loopw [6] (fun v6 wr => ∃ (pos fuel : Nat), wr.heap[v.heap.size]? = some (.stringIter T pos) /\ Zz (runeHas (rns T fuel pos) a1 = r /\ T.size <= pos + fuel) /\ Zz (Below w.heap.size w wr)) (fun _ wr => T.size - wr.iterPos v.heap.size)
 case atStart => exact ⟨0, T.size, iter_new v T, ⟨by have := HN.out; unfold runesOf at this; exact this, by omega⟩, ⟨HB0.out.alloc HB0.out.size _⟩⟩
 case round =>
  obtain ⟨pos, fuel, hit, hR, HB⟩ := hrel
  have hge := HB0.out.size
  by_cases hp : pos < T.size
  · have hnx := fun ty => Lib.run_next_any_at (P := Tryz.prog) wr v.heap.size T pos ty hit hp
    obtain ⟨f2, hf2, he2⟩ := rns_step T fuel pos hp hR.out.2
    have hR1 := hR.out.1
    rw [he2] at hR1
    have hM := Zz.mk (iter_less (Lib.decode_width_pos T pos hp) hit hp)
    have HI := Zz.mk (Lib.iterAt_heap wr v.heap.size T pos (pos + (Utf8.decode T pos).2) hit)
    have HB1 := Zz.mk (Lib.below_iterAt HB.out hge T (pos + (Utf8.decode T pos).2))
    by_cases hc : ((Utf8.decode T pos).1 : Int) = a1
    · have hc' : decide (((Utf8.decode T pos).1 : Int) = a1) = true := decide_eq_true hc
      have hr : r = true := by rw [<- hR1]; simp [runeHas, hc]
      subst hr
      clear hR1 he2 hf2 hR HB
      go_wp2
      go_ret
      exact ⟨rfl, HB1.out⟩
    · have hc' : decide (((Utf8.decode T pos).1 : Int) = a1) = false := decide_eq_false hc
      have hR2 : Zz (runeHas (rns T f2 (pos + (Utf8.decode T pos).2)) a1 = r /\ T.size <= (pos + (Utf8.decode T pos).2) + f2) := ⟨by rw [<- hR1]; simp [runeHas, hc], hf2⟩
      clear hR1 he2 hf2 hR HB
      go_wp2
      go_roundw
      case rel => exact ⟨_, f2, HI.out, hR2, HB1⟩
      case measure => exact hM.out
  · have hnx := fun ty => Lib.run_next_end_at (P := Tryz.prog) wr v.heap.size T pos ty hit hp
    have hr : r = false := by have := hR.out.1; rw [rns_end T fuel pos hp] at this; rw [<- this]; rfl
    subst hr
    go_wp2
    go_ret
    exact ⟨rfl, HB.out⟩
/-- a bool's contract -/
def BoolB (b : Bool) (w : World) (e : Ending) (w' : World) : Prop := e = .returned (.bool b) /\ Below w.heap.size w w'
theorem boolB_i {a b : Bool} {w w' : World} (h : a = b) (hb : Below w.heap.size w w') : BoolB b w (.returned (.bool a)) w' := ⟨by rw [h], hb⟩
/-- block g of the call's own world W holds these cells; what was there ahead of the call (in w) is as it was -/
structure Bx (w W : World) (g : Nat) (cs : List Value) (t : TypeId) : Prop where
 row : W.heap[g]? = some (.cells cs.toArray t (0, 0))
 hb : Below w.heap.size w W
theorem Bx.new (w : World) (cs : List Value) (t : TypeId) : Bx w (w.alloc (.cells cs.toArray t)) w.heap.size cs t := ⟨heap_alloc_new w _, (Below.refl _ _).alloc (Nat.le_refl _) _⟩
theorem Bx.next {w W W' : World} {g : Nat} {cs : List Value} {t : TypeId} (h : Bx w W g cs t) (hb : Below W.heap.size W W') : Bx w W' g cs t := ⟨krow h.row hb, h.hb.trans (hb.mono h.hb.size)⟩
theorem Bx.push {w W : World} {g : Nat} {cs : List Value} {t : TypeId} (h : Bx w W g cs t) (o : Obj) : Bx w (W.alloc o) g cs t := h.next ((Below.refl _ _).alloc (Nat.le_refl _) _)
theorem Bx.on {w W : World} {g : Nat} {cs : List Value} {t : TypeId} (h : Bx w W g cs t) (cs' : List Value) (t' : TypeId) : Bx w (W.alloc (.cells cs'.toArray t')) W.heap.size cs' t' := ⟨heap_alloc_new W _, h.hb.alloc h.hb.size _⟩
theorem Bx.c {w W : World} {g : Nat} {cs : List Value} {t : TypeId} (h : Bx w W g cs t) (i : Nat) : W.cell? ⟨g, i, none⟩ = cs.toArray[i]? := blk_cell h.row i
theorem cxs4 {w W : World} {g : Nat} {cs : List Value} {t : TypeId} (h : Bx w W g cs t) : W.cell? ⟨g, 0, none⟩ = cs.toArray[0]? ∧ W.cell? ⟨g, 1, none⟩ = cs.toArray[1]? ∧ W.cell? ⟨g, 2, none⟩ = cs.toArray[2]? ∧ W.cell? ⟨g, 3, none⟩ = cs.toArray[3]? := ⟨h.c 0, h.c 1, h.c 2, h.c 3⟩
theorem cxs13 {w W : World} {g : Nat} {cs : List Value} {t : TypeId} (h : Bx w W g cs t) : W.cell? ⟨g, 0, none⟩ = cs.toArray[0]? ∧ W.cell? ⟨g, 1, none⟩ = cs.toArray[1]? ∧ W.cell? ⟨g, 2, none⟩ = cs.toArray[2]? ∧ W.cell? ⟨g, 3, none⟩ = cs.toArray[3]? ∧ W.cell? ⟨g, 4, none⟩ = cs.toArray[4]? ∧ W.cell? ⟨g, 5, none⟩ = cs.toArray[5]? ∧ W.cell? ⟨g, 6, none⟩ = cs.toArray[6]? ∧ W.cell? ⟨g, 7, none⟩ = cs.toArray[7]? ∧ W.cell? ⟨g, 8, none⟩ = cs.toArray[8]? ∧ W.cell? ⟨g, 9, none⟩ = cs.toArray[9]? ∧ W.cell? ⟨g, 10, none⟩ = cs.toArray[10]? ∧ W.cell? ⟨g, 11, none⟩ = cs.toArray[11]? ∧ W.cell? ⟨g, 12, none⟩ = cs.toArray[12]? := ⟨h.c 0, h.c 1, h.c 2, h.c 3, h.c 4, h.c 5, h.c 6, h.c 7, h.c 8, h.c 9, h.c 10, h.c 11, h.c 12⟩
theorem Bx.z {w W : World} {g : Nat} {cs : List Value} {t : TypeId} (h : Bx w W g cs t) (i : Nat) : W.frozen? ⟨g, i, none⟩ = false := blk_frozen h.row i
theorem Bx.lt {w W : World} {g : Nat} {cs : List Value} {t : TypeId} (h : Bx w W g cs t) : g < W.heap.size := (Array.getElem?_eq_some_iff.1 h.row).1
theorem Bx.at_ {w W : World} {g g' : Nat} {cs : List Value} {t : TypeId} (h : Bx w W g cs t) (e : g = g') : Bx w W g' cs t := e ▸ h
theorem eqRg (d : Nat) (w : World) (x0 y0 : Int) (x1 y1 : Int) :
 (Op.equalIn (d + 2) 30 (.agg #[.int .u64 x0, .int .u64 x1]) (.agg #[.int .u64 y0, .int .u64 y1])).run Tryz.prog w = .ok (x0 == y0 && (x1 == y1)) w := by
 refine eqA_of Tryz.underlying30 (by kernel_rfl) ?_
 refine eqf_cons (by rfl) (by go_simp; rfl) (by go_simp; rfl) (by go_simp) ?_
 exact eqf_last (by rfl) (by go_simp; rfl) (by go_simp; rfl) (by go_simp)
theorem eqLv (d : Nat) (w : World) (x0 y0 : Int) (x1 y1 : Int) :
 (Op.equalIn (d + 2) 74 (.agg #[.int .u32 x0, .int .u32 x1]) (.agg #[.int .u32 y0, .int .u32 y1])).run Tryz.prog w = .ok (x0 == y0 && (x1 == y1)) w := by
 refine eqA_of Tryz.underlying74 (by kernel_rfl) ?_
 refine eqf_cons (by rfl) (by go_simp; rfl) (by go_simp; rfl) (by go_simp) ?_
 exact eqf_last (by rfl) (by go_simp; rfl) (by go_simp; rfl) (by go_simp)
theorem nat_beq0 (n : Nat) : ((n : Int) == 0) = decide (n = 0) := by rw [Bool.eq_iff_iff]; simp
/-- what a walk holds of a plan's box (pb) and an act's (xb) -/
def HX (w : World) (tp ta : TypeId) (pb xb : Nat) (p0 p1 p2 p3 c0 c1 c2 c3 c4 c5 c6 c7 c8 c9 c10 c11 c12 : Value) (W : World) : Prop := W.cell? ⟨pb, 0, none⟩ = some p0 /\ W.cell? ⟨pb, 1, none⟩ = some p1 /\ W.cell? ⟨pb, 2, none⟩ = some p2 /\ W.cell? ⟨pb, 3, none⟩ = some p3 /\ W.cell? ⟨xb, 0, none⟩ = some c0 /\ W.cell? ⟨xb, 1, none⟩ = some c1 /\ W.cell? ⟨xb, 2, none⟩ = some c2 /\ W.cell? ⟨xb, 3, none⟩ = some c3 /\ W.cell? ⟨xb, 4, none⟩ = some c4 /\ W.cell? ⟨xb, 5, none⟩ = some c5 /\ W.cell? ⟨xb, 6, none⟩ = some c6 /\ W.cell? ⟨xb, 7, none⟩ = some c7 /\ W.cell? ⟨xb, 8, none⟩ = some c8 /\ W.cell? ⟨xb, 9, none⟩ = some c9 /\ W.cell? ⟨xb, 10, none⟩ = some c10 /\ W.cell? ⟨xb, 11, none⟩ = some c11 /\ W.cell? ⟨xb, 12, none⟩ = some c12 /\ Zz (Bx w W pb [p0, p1, p2, p3] tp) /\ Zz (Bx w W xb [c0, c1, c2, c3, c4, c5, c6, c7, c8, c9, c10, c11, c12] ta)
theorem hx_mk {w W : World} {tp ta : TypeId} {pb xb : Nat} {p0 p1 p2 p3 c0 c1 c2 c3 c4 c5 c6 c7 c8 c9 c10 c11 c12 : Value} (h1 : Bx w W pb [p0, p1, p2, p3] tp) (h2 : Bx w W xb [c0, c1, c2, c3, c4, c5, c6, c7, c8, c9, c10, c11, c12] ta) : HX w tp ta pb xb p0 p1 p2 p3 c0 c1 c2 c3 c4 c5 c6 c7 c8 c9 c10 c11 c12 W := ⟨h1.c 0, h1.c 1, h1.c 2, h1.c 3, h2.c 0, h2.c 1, h2.c 2, h2.c 3, h2.c 4, h2.c 5, h2.c 6, h2.c 7, h2.c 8, h2.c 9, h2.c 10, h2.c 11, h2.c 12, ⟨h1⟩, ⟨h2⟩⟩
theorem HX.p {w W : World} {tp ta : TypeId} {pb xb : Nat} {p0 p1 p2 p3 c0 c1 c2 c3 c4 c5 c6 c7 c8 c9 c10 c11 c12 : Value} (h : HX w tp ta pb xb p0 p1 p2 p3 c0 c1 c2 c3 c4 c5 c6 c7 c8 c9 c10 c11 c12 W) : Bx w W pb [p0, p1, p2, p3] tp := h.2.2.2.2.2.2.2.2.2.2.2.2.2.2.2.2.2.1.out
theorem HX.x {w W : World} {tp ta : TypeId} {pb xb : Nat} {p0 p1 p2 p3 c0 c1 c2 c3 c4 c5 c6 c7 c8 c9 c10 c11 c12 : Value} (h : HX w tp ta pb xb p0 p1 p2 p3 c0 c1 c2 c3 c4 c5 c6 c7 c8 c9 c10 c11 c12 W) : Bx w W xb [c0, c1, c2, c3, c4, c5, c6, c7, c8, c9, c10, c11, c12] ta := h.2.2.2.2.2.2.2.2.2.2.2.2.2.2.2.2.2.2.out
theorem HX.next {w W W' : World} {tp ta : TypeId} {pb xb : Nat} {p0 p1 p2 p3 c0 c1 c2 c3 c4 c5 c6 c7 c8 c9 c10 c11 c12 : Value} (h : HX w tp ta pb xb p0 p1 p2 p3 c0 c1 c2 c3 c4 c5 c6 c7 c8 c9 c10 c11 c12 W) (hb : Below W.heap.size W W') : HX w tp ta pb xb p0 p1 p2 p3 c0 c1 c2 c3 c4 c5 c6 c7 c8 c9 c10 c11 c12 W' := hx_mk (h.p.next hb) (h.x.next hb)
theorem HX.drew {w W : World} {tp ta : TypeId} {pb xb : Nat} {p0 p1 p2 p3 c0 c1 c2 c3 c4 c5 c6 c7 c8 c9 c10 c11 c12 : Value} (h : HX w tp ta pb xb p0 p1 p2 p3 c0 c1 c2 c3 c4 c5 c6 c7 c8 c9 c10 c11 c12 W) : HX w tp ta pb xb p0 p1 p2 p3 c0 c1 c2 c3 c4 c5 c6 c7 c8 c9 c10 c11 c12 W.drew := h.next (Below.drew (Below.refl _ _))
/-! the steps of a walk through a region that draws its order -/
theorem tkH {P : Program} {ops : Array Oper} {Q : Exit -> Go.Act -> World -> Prop} {md : Region.Mode} {S : World -> Prop} {fuel : Nat} {l : Array Bool} {a : Go.Act} {w : World} (i : Nat) {oi : Oper} {v : Value} {a' : Go.Act} (hi : ops[i]? = some oi := by rfl)
 (hc : (Region.noSelect ops && (Region.free md ops l i && (Region.ready md ops l).contains i)) = true := by kernel_rfl) (hw : Region.wanted oi (yielded ops a.tmps) = true := by rfl)
 (hy : ∀ w, S w -> (execOp a.eval oi).run P w = .ok (.value v) w := by (intro w hSw; (try dsimp only at hSw); (try simp only [HX] at hSw); go_simp; (try with_reducible rfl)))
 (hQ : ∀ c a w, Q (.panic c) (a.put oi.dst v) w -> Q (.panic c) a w := by first | exact fun _ _ _ h => h | exact fun c a w h => HQ.out c _ _ _ w h) (hS : S w := by assumption)
 (ha : a.put oi.dst v = a' := by ((try simp only [putL]); rfl))
 (h : wpAnyH P md ops Q S fuel (l.setIfInBounds i true) a' w) : wpAnyH P md ops Q S (fuel + 1) l a w := by
 simp only [Bool.and_eq_true] at hc
 subst ha
 exact wpAnyH_take hi hc.1 hc.2.1 hc.2.2 hQ (Or.inl ⟨hw, hy⟩) hS h
theorem skH {P : Program} {ops : Array Oper} {Q : Exit -> Go.Act -> World -> Prop} {md : Region.Mode} {S : World -> Prop} {fuel : Nat} {l : Array Bool} {a : Go.Act} {w : World} (i : Nat) {oi : Oper} {a' : Go.Act} (hi : ops[i]? = some oi := by rfl)
 (hc : (Region.noSelect ops && (Region.free md ops l i && (Region.ready md ops l).contains i)) = true := by kernel_rfl) (hw : Region.wanted oi (yielded ops a.tmps) = false := by rfl)
 (hQ : ∀ c a w, Q (.panic c) (a.put oi.dst undef) w -> Q (.panic c) a w := by first | exact fun _ _ _ h => h | exact fun c a w h => HQ.out c _ _ _ w h) (hS : S w := by assumption)
 (ha : a.put oi.dst undef = a' := by ((try simp only [putL]); rfl))
 (h : wpAnyH P md ops Q S fuel (l.setIfInBounds i true) a' w) : wpAnyH P md ops Q S (fuel + 1) l a w := by
 simp only [Bool.and_eq_true] at hc
 subst ha
 exact wpAnyH_take hi hc.1 hc.2.1 hc.2.2 hQ (Or.inr ⟨hw, rfl⟩) hS h
def lets : List UInt8 := [119, 109, 120, 98, 110, 115, 100, 116, 107, 105, 114, 112]
theorem ref_has (d : Int) : liveryref27_Has.f d = some (rowOf d).2 := rfl
theorem rune_rows : ∀ n : Fin 18, ∀ c ∈ lets, runeHas (runesOf (rowOf ((n.val : Nat) : Int)).2) ((c.toNat : Nat) : Int) = hasS ((n.val : Nat) : Int) c := by decide +kernel
theorem rune_has (d : Int) (c : UInt8) (hc : c ∈ lets) : runeHas (runesOf (rowOf d).2) ((c.toNat : Nat) : Int) = hasS d c := by
 by_cases h : 0 <= d /\ d < 18
 · obtain ⟨n, rfl⟩ := Int.eq_ofNat_of_zero_le h.1
   exact rune_rows ⟨n, by omega⟩ c hc
 · have e : rowOf d = rowOf 0 := by unfold rowOf; rw [if_neg h, if_pos ⟨by omega, by omega⟩]; rfl
   unfold hasS
   rw [e]
   exact rune_rows ⟨0, by omega⟩ c hc
theorem r_has (d : Int) (c : UInt8) (z : Int) (hz : z = ((c.toNat : Nat) : Int)) (hc : c ∈ lets) (w : World) : Calls Tryz.prog 71 #[.int .i64 d, .int .i32 z] w (BoolB (hasS d c) w) := by
 subst hz
 exact liveryref27_has.calls d _ _ w (by unfold liveryref27_has.f; rw [ref_has]; show some _ = _; rw [rune_has d c hc])
theorem r_Has (d : Int) (w : World) : Calls Tryz.prog 30 #[.int .i64 d] w fun e w' => e = .returned (.string (rowOf d).2) /\ Below w.heap.size w w' := liveryref27_Has.calls d _ w (ref_has d)
def dataR (d n : Int) : Bool := if hasS d 119 = true then decide (32 <= n) && decide (n <= 64) else if hasS d 109 = true then decide (n <= 1000) else if hasS d 120 = true then decide (1 <= n) && decide (n <= 16384) else decide (n = 0)
def numberR (d n : Int) : Bool := if hasS d 98 = true then decide (0 <= n) && decide (n <= 60) else if hasS d 110 = true then decide (0 <= n) && decide (n <= 1073741824) else decide (n = 0)
theorem r_data (x : S34) (cs : List Value) (w : World) (hK : k34.K w x cs) :
 Calls Tryz.prog 69 #[.agg cs.toArray] w (BoolB (dataR x.f0 x.f10.length) w) := by
 have cH := Lib.hid (fun c z hz hc W => r_has x.f0 c z hz hc W)
 have X0 := Zz.mk (Bx.new w cs 34)
 obtain ⟨A4, c4, A11, c11, A12, c12, rfl, l4, g4, l11, g11, l12, g12⟩ := k34_open hK
 clear hK g4 g11 g12 l4 l11 l12
 generalize x.f0 = d at *
 generalize x.f10.length = n at *
 have q0 := X0.out.c 0
 have q11 := X0.out.c 11
 go_enter Tryz.func69, Tryz.ntmps69
 go_wp2_with (first
  | (go_at_call 71
     first
     | (with_reducible refine (cH.out 119 119 (by decide) (by decide) _).mono ?_)
     | (with_reducible refine (cH.out 109 109 (by decide) (by decide) _).mono ?_)
     | (with_reducible refine (cH.out 120 120 (by decide) (by decide) _).mono ?_)
     rintro e v ⟨rfl, hb⟩
     replace X0 := Zz.mk (X0.out.next hb)
     clear hb
     have q0 := X0.out.c 0
     have q11 := X0.out.c 11)
  | fail)
 all_goals
  go_ret
  refine boolB_i ?_ X0.out.hb
  simp [dataR, *]; try first | omega | (rw [Bool.eq_iff_iff]; simp)
theorem r_number (x : S34) (cs : List Value) (w : World) (hK : k34.K w x cs) :
 Calls Tryz.prog 70 #[.agg cs.toArray] w (BoolB (numberR x.f0 x.f9) w) := by
 have cH := Lib.hid (fun c z hz hc W => r_has x.f0 c z hz hc W)
 have X0 := Zz.mk (Bx.new w cs 34)
 obtain ⟨A4, c4, A11, c11, A12, c12, rfl, l4, g4, l11, g11, l12, g12⟩ := k34_open hK
 clear hK g4 g11 g12 l4 l11 l12
 generalize x.f0 = d at *
 generalize x.f9 = n at *
 have q0 := X0.out.c 0
 have q10 := X0.out.c 10
 go_enter Tryz.func70, Tryz.ntmps70
 go_wp2_with (first
  | (go_at_call 71
     first
     | (with_reducible refine (cH.out 98 98 (by decide) (by decide) _).mono ?_)
     | (with_reducible refine (cH.out 110 110 (by decide) (by decide) _).mono ?_)
     rintro e v ⟨rfl, hb⟩
     replace X0 := Zz.mk (X0.out.next hb)
     clear hb
     have q0 := X0.out.c 0
     have q10 := X0.out.c 10)
  | fail)
 all_goals
  go_ret
  refine boolB_i ?_ X0.out.hb
  simp [numberR, *]; try first | omega | (rw [Bool.eq_iff_iff]; simp)
def lowS (d : Int) : Int := if hasS d 119 = true then 32 else if hasS d 109 = true then 0 else if hasS d 120 = true then 1 else 0
def highS (d : Int) : Int := if hasS d 119 = true then 64 else if hasS d 109 = true then 1000 else if hasS d 120 = true then 16384 else 0
def mostS (d : Int) : Int := if hasS d 98 = true then 60 else if hasS d 110 = true then 1073741824 else 0
def picksS (d : Int) : Int := if hasS d 112 = true then 600 else 0
def sizeB (lo hi mo pi : Int) (n nn k : Int) : Bool := decide (lo <= n) && (decide (n <= hi) && (decide (0 <= nn) && (decide (nn <= mo) && decide (k <= pi))))
def sizedS (d : Int) (n nn k : Int) : Bool := sizeB (lowS d) (highS d) (mostS d) (picksS d) n nn k
theorem sizeB_1 {lo hi mo pi n nn k : Int} (h : ¬ lo <= n) : sizeB lo hi mo pi n nn k = false := by unfold sizeB; rw [decide_eq_false h]; rfl
theorem sizeB_2 {lo hi mo pi n nn k : Int} (h : ¬ n <= hi) : sizeB lo hi mo pi n nn k = false := by unfold sizeB; rw [decide_eq_false h]; simp
theorem sizeB_3 {lo hi mo pi n nn k : Int} (h : ¬ 0 <= nn) : sizeB lo hi mo pi n nn k = false := by unfold sizeB; rw [decide_eq_false h]; simp
theorem sizeB_4 {lo hi mo pi n nn k : Int} (h : ¬ nn <= mo) : sizeB lo hi mo pi n nn k = false := by unfold sizeB; rw [decide_eq_false h]; simp
theorem sizeB_5 {lo hi mo pi n nn k : Int} (h : ¬ k <= pi) : sizeB lo hi mo pi n nn k = false := by unfold sizeB; rw [decide_eq_false h]; simp
theorem sizeB_6 {lo hi mo pi n nn k : Int} (h1 : lo <= n) (h2 : n <= hi) (h3 : 0 <= nn) (h4 : nn <= mo) (h5 : k <= pi) : sizeB lo hi mo pi n nn k = true := by unfold sizeB; rw [decide_eq_true h1, decide_eq_true h2, decide_eq_true h3, decide_eq_true h4, decide_eq_true h5]; rfl
theorem sizeB_7 {lo hi mo pi n nn k : Int} (h1 : lo <= n) (h2 : n <= hi) (h3 : 0 <= nn) (h4 : nn <= mo) : sizeB lo hi mo pi n nn k = decide (k <= pi) := by unfold sizeB; rw [decide_eq_true h1, decide_eq_true h2, decide_eq_true h3, decide_eq_true h4]; rfl
theorem sizeB_8 {lo hi mo n nn : Int} {k : Nat} (h1 : lo <= n) (h2 : n <= hi) (h3 : 0 <= nn) (h4 : nn <= mo) : sizeB lo hi mo 0 n nn k = decide (k = 0) := by rw [sizeB_7 h1 h2 h3 h4]; by_cases h : k = 0 <;> simp [h] <;> omega
/-- the letters that tell an act's sizes -/
def clsS (d : Int) : List Bool := [hasS d 119, hasS d 109, hasS d 120, hasS d 98, hasS d 110, hasS d 112]
theorem cls_any (d : Int) : clsS d ∈ [[true, false, false, false, false, false], [false, true, false, false, false, false], [false, false, true, false, false, false], [false, false, false, true, false, false], [false, false, false, false, true, false], [false, false, false, false, false, true], [false, false, false, false, false, false]] := by
 by_cases h : 0 <= d /\ d < 18
 · obtain ⟨n, rfl⟩ := Int.eq_ofNat_of_zero_le h.1
   have : ∀ n : Fin 18, clsS ((n.val : Nat) : Int) ∈ [[true, false, false, false, false, false], [false, true, false, false, false, false], [false, false, true, false, false, false], [false, false, false, true, false, false], [false, false, false, false, true, false], [false, false, false, false, false, true], [false, false, false, false, false, false]] := by decide +kernel
   exact this ⟨n, by omega⟩
 · have e : ∀ c, hasS d c = hasS 0 c := fun c => by unfold hasS rowOf; rw [if_neg h, if_pos ⟨by omega, by omega⟩]; rfl
   unfold clsS
   rw [e, e, e, e, e, e]
   decide +kernel
theorem has_v {d : Int} {c : UInt8} {b : Bool} (h : hasS d c = b) (w : World) : Calls Tryz.prog 103 #[.int .i64 d, .string ⟨#[c]⟩] w fun e w' => e = .returned (.bool b) /\ Below w.heap.size w w' := by
 cases b
 · exact has_f h w
 · exact has_t h w
theorem clsS_at {d : Int} {l : List Bool} (h : clsS d = l) : hasS d 119 = l.getD 0 false /\ hasS d 109 = l.getD 1 false /\ hasS d 120 = l.getD 2 false /\ hasS d 98 = l.getD 3 false /\ hasS d 110 = l.getD 4 false /\ hasS d 112 = l.getD 5 false := by subst h; exact ⟨rfl, rfl, rfl, rfl, rfl, rfl⟩
theorem sized_any (d a1 a2 a3 a5 a6 a7 a8 a9 nn : Int) (A4 A11 A12 : Option Addr) (n4 c4 n11 c11 n12 c12 : Nat) (w : World) :
 Calls Tryz.prog 65 #[.agg #[.int .i64 d, .int .i64 a1, .int .i64 a2, .int .i64 a3, .slice A4 n4 c4, .int .u32 a5, .int .u32 a6, .int .u32 a7, .int .u64 a8, .int .u64 a9, .int .i64 nn, .slice A11 n11 c11, .slice A12 n12 c12]] w fun e w' => e = .returned (.bool (sizedS d n11 nn n12)) /\ Below w.heap.size w w' := by
 have hc := cls_any d
 simp only [List.mem_cons, List.mem_nil_iff, or_false] at hc
 unfold sizedS lowS highS mostS picksS
 rcases hc with h | h | h | h | h | h | h
 all_goals
  obtain ⟨h1, h2, h3, h4, h5, h6⟩ := clsS_at h
  simp only [List.getD_cons_zero, List.getD_cons_succ] at h1 h2 h3 h4 h5 h6
  rw [h1, h2, h3, h4, h5, h6]
  simp only [eq_self, Bool.false_eq_true, if_true, if_false]
  have k1 := Lib.hid (has_v h1)
  have k2 := Lib.hid (has_v h2)
  have k3 := Lib.hid (has_v h3)
  have k4 := Lib.hid (has_v h4)
  have k5 := Lib.hid (has_v h5)
  have k6 := Lib.hid (has_v h6)
  clear h h1 h2 h3 h4 h5 h6
  go_enter Tryz.func65, Tryz.ntmps65
  have HR := Zz.mk (heap_alloc_new w (.cells #[.int .i64 d, .int .i64 a1, .int .i64 a2, .int .i64 a3, .slice A4 n4 c4, .int .u32 a5, .int .u32 a6, .int .u32 a7, .int .u64 a8, .int .u64 a9, .int .i64 nn, .slice A11 n11 c11, .slice A12 n12 c12] 34))
  have HB := Zz.mk ((Below.refl w.heap.size w).alloc (Nat.le_refl _) (.cells #[.int .i64 d, .int .i64 a1, .int .i64 a2, .int .i64 a3, .slice A4 n4 c4, .int .u32 a5, .int .u32 a6, .int .u32 a7, .int .u64 a8, .int .u64 a9, .int .i64 nn, .slice A11 n11 c11, .slice A12 n12 c12] 34))
  go_wp2_with (first
   | (go_at_call 103
      with_reducible first | refine (k1.out _).mono ?_ | refine (k2.out _).mono ?_ | refine (k3.out _).mono ?_ | refine (k4.out _).mono ?_ | refine (k5.out _).mono ?_ | refine (k6.out _).mono ?_
      rintro e v ⟨rfl, hbz⟩
      replace HR := Zz.mk (krow HR.out hbz)
      replace HB := Zz.mk (HB.out.trans (hbz.mono HB.out.size))
      clear hbz
      have q0 : v.cell? ⟨w.heap.size, 0, none⟩ = some (.int .i64 d) := blk_cell HR.out 0
      have q10 : v.cell? ⟨w.heap.size, 10, none⟩ = some (.int .i64 nn) := blk_cell HR.out 10
      have q11 : v.cell? ⟨w.heap.size, 11, none⟩ = some (.slice A11 n11 c11) := blk_cell HR.out 11
      have q12 : v.cell? ⟨w.heap.size, 12, none⟩ = some (.slice A12 n12 c12) := blk_cell HR.out 12)
   | fail)
  all_goals
   go_ret
   refine ⟨ret_bool ?_, HB.out⟩
   first
    | (refine (sizeB_7 ?_ ?_ ?_ ?_).symm <;> omega)
    | (refine (sizeB_8 ?_ ?_ ?_ ?_).symm <;> omega)
    | (refine (sizeB_6 ?_ ?_ ?_ ?_ ?_).symm <;> omega)
    | (refine (sizeB_1 ?_).symm; omega)
    | (refine (sizeB_2 ?_).symm; omega)
    | (refine (sizeB_3 ?_).symm; omega)
    | (refine (sizeB_4 ?_).symm; omega)
    | (refine (sizeB_5 ?_).symm; omega)
def script_sized.f (a0_0 : Int) (a0_1 : Int) (a0_2 : Int) (a0_3 : Int) (l0_4 : List (S74)) (a0_5 : Int) (a0_6 : Int) (a0_7 : Int) (a0_8 : Int) (a0_9 : Int) (a0_10 : Int) (l0_11 : List Int) (l0_12 : List Bool) : Option Bool := some (sizedS a0_0 l0_11.length a0_10 l0_12.length)
theorem script_sized.calls (a0_0 : Int) (a0_1 : Int) (a0_2 : Int) (a0_3 : Int) (A0_4 : Option Addr) (c0_4 : Nat) (l0_4 : List (S74)) (a0_5 : Int) (a0_6 : Int) (a0_7 : Int) (a0_8 : Int) (a0_9 : Int) (a0_10 : Int) (A0_11 : Option Addr) (c0_11 : Nat) (l0_11 : List Int) (A0_12 : Option Addr) (c0_12 : Nat) (l0_12 : List Bool) (r : Bool) (w : World) (hr0_4 : Kd.C k74 w A0_4 l0_4.length l0_4) (hc0_4 : l0_4.length <= c0_4) (hr0_11 : Kd.C (Kd.int .u8) w A0_11 l0_11.length l0_11) (hc0_11 : l0_11.length <= c0_11) (hr0_12 : Kd.C Kd.bool w A0_12 l0_12.length l0_12) (hc0_12 : l0_12.length <= c0_12) (h : script_sized.f a0_0 a0_1 a0_2 a0_3 l0_4 a0_5 a0_6 a0_7 a0_8 a0_9 a0_10 l0_11 l0_12 = some r) :
 Calls Tryz.prog 65 #[.agg #[.int .i64 a0_0, .int .i64 a0_1, .int .i64 a0_2, .int .i64 a0_3, .slice A0_4 l0_4.length c0_4, .int .u32 a0_5, .int .u32 a0_6, .int .u32 a0_7, .int .u64 a0_8, .int .u64 a0_9, .int .i64 a0_10, .slice A0_11 l0_11.length c0_11, .slice A0_12 l0_12.length c0_12]] w fun e w' => e = .returned (.bool r) /\ Below w.heap.size w w' := by
 obtain rfl := Option.some.inj h
 exact sized_any a0_0 a0_1 a0_2 a0_3 a0_5 a0_6 a0_7 a0_8 a0_9 a0_10 A0_4 A0_11 A0_12 l0_4.length c0_4 l0_11.length c0_11 l0_12.length c0_12 w
end Go.Proofs.YtpdinahdcedmkaaGreatDoor.Ext
