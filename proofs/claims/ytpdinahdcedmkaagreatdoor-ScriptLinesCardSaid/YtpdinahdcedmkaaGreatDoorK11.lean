import Derived.Test.YtpdinahdcedmkaaGreatDoorK10
import Derived.Test.YtpdinahdcedmkaaGreatDoorK9
import Derived.Test.YtpdinahdcedmkaaGreatDoorK4
import Derived.Test.YtpdinahdcedmkaaGreatDoorK8
import Derived.Laws.BitsLemmas
import Derived.Laws.CopyOwn
import Derived.Test.YtpdinahdcedmkaaGreatDoorK5
import Derived.RangeFuncNested
import Derived.RangeFuncBound
import Derived.RangeFuncCalls
import Derived.RangeFuncLeaves
import Derived.RangeFuncBox
import Derived.Shelf.Abstract
import Derived.Shelf.RegionOpen
import Derived.OwnWalkIn
import Derived.TacticsInMore
import Derived.LoopNIn
import Derived.LoopIn
import Derived.Test.YtpdinahdcedmkaaGreatDoorK7
import Derived.Maps.AppendAt
import Derived.Lib.OthersKept
import Derived.Lib.RuneCount
import Derived.Lib.Hide
set_option linter.unusedVariables false
set_option linter.unusedSimpArgs false
set_option maxHeartbeats 8000000
set_option maxRecDepth 100000
/- the law's big: is a plan too long to be looked at? -/
namespace Go.Proofs.YtpdinahdcedmkaaGreatDoor.Ext
open Go.Proofs.YtpdinahdcedmkaaGreatDoor.P
open Go.RowKit YtpdinahdcedmkaaGreatDoorW.PrintWords YtpdinahdcedmkaaGreatDoorW.PrintLast YtpdinahdcedmkaaGreatDoorW.PrintMore
def muchS (x : Act) : Bool := decide (40000 < x.f10.length) || (decide (2000 < x.f11.length) || decide (50 < x.f4.length))
theorem c_much (x : Act) (cs : List Value) (w : World) (hK : k34.K w x cs) :
 Calls Tryz.prog 10 #[.agg cs.toArray] w (BoolB (muchS x) w) := by
 have X0 := Zz.mk (Bx.new w cs 34)
 obtain ⟨A4, c4, A11, c11, A12, c12, rfl, l4, g4, l11, g11, l12, g12⟩ := k34_open hK
 have b4 : x.f4.length <= 9223372036854775807 := g4.2.1
 have b11 : x.f10.length <= 9223372036854775807 := g11.2.1
 have b12 : x.f11.length <= 9223372036854775807 := g12.2.1
 clear hK g4 g11 g12 l4 l11 l12
 unfold muchS
 generalize x.f4.length = n4 at *
 generalize x.f10.length = n11 at *
 generalize x.f11.length = n12 at *
 have q4 := X0.out.c 4
 have q11 := X0.out.c 11
 have q12 := X0.out.c 12
 go_enter Tryz.func10, Tryz.ntmps10
 go_wp2_with fail
 all_goals
  go_ret
  refine boolB_i ?_ X0.out.hb
  clear X0 q4 q11 q12
  try simp only [*, Bool.or_true, Bool.true_or, Bool.or_false, Bool.false_or, decide_true, decide_false]
  try first | done | omega | (rw [Bool.eq_iff_iff]; simp; try omega)
def bigL (l : List ByteArray) : Bool := l.any fun s => decide (1000 < s.size)
def bigS (p : Plan) : Bool := (decide (40 < p.f2.length) || decide (60 < p.f3.length)) || (bigL p.f2 || p.f3.any muchS)
theorem drop_getS (l : List ByteArray) (i : Nat) (h : i < l.length) : l.drop i = l.getD i ByteArray.empty :: l.drop (i + 1) := by
 rw [List.drop_eq_getElem_cons h]
 congr 1
 rw [List.getD_eq_getElem?_getD, List.getElem?_eq_getElem h]
 rfl
theorem c_big (p : Plan) (cp : List Value) (w : World) (hP : k25.K w p cp) :
 Calls Tryz.prog 9 #[.agg cp.toArray] w (BoolB (bigS p) w) := by
 have cM := Lib.hid (fun i cs W (hW : Below w.heap.size w W) (h1 : k34.K w (p.f3.getD i z34) cs) => c_much (p.f3.getD i z34) cs W (k34.K_below hW h1))
 have P0 := Zz.mk (Bx.new w cp 25)
 obtain ⟨B2, d2, B3, d3, rfl, m2, e2, m3, e3⟩ := k25_open hP
 have hn2 : p.f2.length <= 9223372036854775807 := e2.2.1
 have hn3 : p.f3.length <= 9223372036854775807 := e3.2.1
 have HC := Zz.mk e3
 have HN := Zz.mk e2
 clear hP m2 e2 m3 e3
 obtain ⟨R, hR⟩ : ∃ R, bigS p = R := ⟨_, rfl⟩
 rw [hR]
 unfold bigS at hR
 have HR := Lib.hid hR
 clear hR
 have r2 := P0.out.c 2
 have r3 := P0.out.c 3
 by_cases hbg : 40 < p.f2.length \/ 60 < p.f3.length
 · obtain rfl : R = true := by
    rw [<- HR.out]
    rcases hbg with h | h
    · rw [decide_eq_true h]; rfl
    · rw [decide_eq_true h, Bool.or_true]; rfl
   clear HR
   rcases Nat.lt_or_ge 40 p.f2.length with h1 | h1
   · have t1 : (40 : Int) < (p.f2.length : Int) := by omega
     clear hbg h1
     go_enter Tryz.func9, Tryz.ntmps9
     go_wp2_with fail
     go_ret
     exact ⟨rfl, P0.out.hb⟩
   · have t1 : ¬ (40 : Int) < (p.f2.length : Int) := by omega
     have t2 : (60 : Int) < (p.f3.length : Int) := by omega
     clear hbg h1
     go_enter Tryz.func9, Tryz.ntmps9
     go_wp2_with fail
     go_ret
     exact ⟨rfl, P0.out.hb⟩
 · have t1 : ¬ (40 : Int) < (p.f2.length : Int) := by omega
   have t2 : ¬ (60 : Int) < (p.f3.length : Int) := by omega
   have HA0 := Lib.hid (show (bigL p.f2 || p.f3.any muchS) = R by rw [<- HR.out, decide_eq_false (by omega), decide_eq_false (by omega)]; rfl)
   clear HR hbg
   go_enter Tryz.func9, Tryz.ntmps9
   go_wp2_with fail
   clear t1 t2
   go_loop [20] (fun v20 => ∃ i : Nat, v20 = .int .i64 i /\ i <= p.f2.length /\ Zz ((bigL (p.f2.drop i) || p.f3.any muchS) = R)) (fun v20 => p.f2.length - (intOf v20).toNat)
   case atStart => exact ⟨0, rfl, by omega, ⟨HA0.out⟩⟩
   case round =>
    obtain ⟨i, rfl, hi, HA⟩ := hrel
    by_cases hlt : i < p.f2.length
    · obtain ⟨ad, e0, hx⟩ := Kd.at_string HN.out (i : Int) (by omega) (by omega)
      cases e0
      simp only [rdOf, Int.toNat_natCast] at hx
      have hx1 := (P0.out.hb.cell (World.block_lt_of_cell? w _ hx)).trans hx
      clear hx
      have HA1 := HA.out
      unfold bigL at HA1
      rw [drop_getS p.f2 i hlt, List.any_cons] at HA1
      generalize p.f2.getD i ByteArray.empty = s at *
      clear HA
      by_cases hb : 1000 < s.size
      · obtain rfl : R = true := by rw [<- HA1, decide_eq_true hb]; rfl
        have t3 : (1000 : Int) < (s.size : Int) := by omega
        clear HA1
        go_wp2
        go_ret
        exact ⟨rfl, P0.out.hb⟩
      · have HA3 := Zz.mk (show (bigL (p.f2.drop (i + 1)) || p.f3.any muchS) = R by rw [<- HA1, decide_eq_false hb]; rfl)
        have t3 : ¬ (1000 : Int) < (s.size : Int) := by omega
        clear HA1
        go_wp2
        go_round
        case rel => exact ⟨i + 1, by go_num, by omega, HA3⟩
        case measure => simp [intOf]; omega
    · have hA := HA.out
      rw [List.drop_of_length_le (by omega)] at hA
      have hA : p.f3.any muchS = R := hA
      have HA2 := Zz.mk hA
      clear hA HA
      go_wp2
      go_loopw [31] (fun v31 wr => ∃ j : Nat, v31 = .int .i64 j /\ j <= p.f3.length /\ Zz ((p.f3.drop j).any muchS = R) /\ Zz (Bx w wr w.heap.size [.int .i64 p.f0, .int .i64 p.f1, .slice B2 p.f2.length d2, .slice B3 p.f3.length d3] 25)) (fun v31 _ => p.f3.length - (intOf v31).toNat)
      case atStart => exact ⟨0, rfl, by omega, ⟨HA2.out⟩, P0⟩
      case round =>
       clear r2 r3
       obtain ⟨j, rfl, hj, HJ, HP⟩ := hrel
       by_cases hlj : j < p.f3.length
       · obtain ⟨ad, A4, c4, A11, c11, A12, c12, e3, hx0, hx1, hx2, hx3, hx4, hx5, hx6, hx7, hx8, hx9, hx10, hx11, hx12, h4, g4, h11, g11, h12, g12⟩ := at_T34 HC.out (j : Int) (by omega) (by omega)
         cases e3
         have cc := Lib.hid (fun W hW => cM.out j _ W hW (k34_mk w _ h4 g4 h11 g11 h12 g12))
         have HA1 := HJ.out
         rw [drop_cons34 p.f3 j hlj, List.any_cons] at HA1
         simp only [rd_T34, Int.toNat_natCast] at *
         clear g4 g11 g12 h4 h11 h12 HJ
         generalize p.f3.getD j z34 = x at *
         generalize muchS x = m at *
         have HA3 := Lib.hid HA1
         clear HA1
         replace hx0 := (HP.out.hb.cell (World.block_lt_of_cell? w _ hx0)).trans hx0
         replace hx1 := (HP.out.hb.cell (World.block_lt_of_cell? w _ hx1)).trans hx1
         replace hx2 := (HP.out.hb.cell (World.block_lt_of_cell? w _ hx2)).trans hx2
         replace hx3 := (HP.out.hb.cell (World.block_lt_of_cell? w _ hx3)).trans hx3
         replace hx4 := (HP.out.hb.cell (World.block_lt_of_cell? w _ hx4)).trans hx4
         replace hx5 := (HP.out.hb.cell (World.block_lt_of_cell? w _ hx5)).trans hx5
         replace hx6 := (HP.out.hb.cell (World.block_lt_of_cell? w _ hx6)).trans hx6
         replace hx7 := (HP.out.hb.cell (World.block_lt_of_cell? w _ hx7)).trans hx7
         replace hx8 := (HP.out.hb.cell (World.block_lt_of_cell? w _ hx8)).trans hx8
         replace hx9 := (HP.out.hb.cell (World.block_lt_of_cell? w _ hx9)).trans hx9
         replace hx10 := (HP.out.hb.cell (World.block_lt_of_cell? w _ hx10)).trans hx10
         replace hx11 := (HP.out.hb.cell (World.block_lt_of_cell? w _ hx11)).trans hx11
         replace hx12 := (HP.out.hb.cell (World.block_lt_of_cell? w _ hx12)).trans hx12
         have hst := act_store0 (.int .i64 x.f0) (.int .i64 x.f1) (.int .i64 x.f2) (.int .i64 x.f3) (.slice A4 x.f4.length c4) (.int .u32 x.f5) (.int .u32 x.f6) (.int .u32 x.f7) (.int .u64 x.f8.f0) (.int .u64 x.f8.f1) (.int .i64 x.f9) (.slice A11 x.f10.length c11) (.slice A12 x.f11.length c12) (by simp [Value.oneCell'])
         have X0 := Zz.mk (HP.out.on [.int .i64 x.f0, .int .i64 x.f1, .int .i64 x.f2, .int .i64 x.f3, .slice A4 x.f4.length c4, .int .u32 x.f5, .int .u32 x.f6, .int .u32 x.f7, .int .u64 x.f8.f0, .int .u64 x.f8.f1, .int .i64 x.f9, .slice A11 x.f10.length c11, .slice A12 x.f11.length c12] 34)
         replace HP := Zz.mk (HP.out.push (.cells #[.int .i64 x.f0, .int .i64 x.f1, .int .i64 x.f2, .int .i64 x.f3, .slice A4 x.f4.length c4, .int .u32 x.f5, .int .u32 x.f6, .int .u32 x.f7, .int .u64 x.f8.f0, .int .u64 x.f8.f1, .int .i64 x.f9, .slice A11 x.f10.length c11, .slice A12 x.f11.length c12] 34))
         go_upto_region 12 with fail
         generalize wr.alloc (.cells #[.int .i64 x.f0, .int .i64 x.f1, .int .i64 x.f2, .int .i64 x.f3, .slice A4 x.f4.length c4, .int .u32 x.f5, .int .u32 x.f6, .int .u32 x.f7, .int .u64 x.f8.f0, .int .u64 x.f8.f1, .int .i64 x.f9, .slice A11 x.f10.length c11, .slice A12 x.f11.length c12] 34) = W7 at *
         clear hx0 hx1 hx2 hx3 hx4 hx5 hx6 hx7 hx8 hx9 hx10 hx11 hx12 hst
         obtain ⟨q0, q1, q2, q3, q4, q5, q6, q7, q8, q9, q10, q11, q12⟩ := cxs13 X0.out
         cases m with
         | false =>
           go_wp2_with (first
            | (go_at_call 10
               with_reducible refine (cc.out _ HP.out.hb).mono ?_
               rintro e v2 ⟨rfl, hb⟩
               replace HP := Zz.mk (HP.out.next hb)
               clear hb)
            | fail)
           go_roundw
           case rel => exact ⟨j + 1, by go_num, by omega, ⟨by rw [<- HA3.out]; rfl⟩, HP⟩
           case measure => simp [intOf]; omega
         | true =>
           obtain rfl : R = true := by rw [<- HA3.out]; rfl
           go_wp2_with (first
            | (go_at_call 10
               with_reducible refine (cc.out _ HP.out.hb).mono ?_
               rintro e v2 ⟨rfl, hb⟩
               replace HP := Zz.mk (HP.out.next hb)
               clear hb)
            | fail)
           go_ret
           exact ⟨rfl, HP.out.hb⟩
       · obtain rfl : R = false := by rw [<- HJ.out, List.drop_of_length_le (by omega)]; rfl
         go_wp2
         go_ret
         exact ⟨rfl, HP.out.hb⟩
def sameA (x y : Act) : Bool := x.f0 == y.f0 && (x.f1 == y.f1 && (x.f2 == y.f2 && (x.f3 == y.f3 && (x.f5 == y.f5 && (x.f6 == y.f6 && (x.f7 == y.f7 && ((x.f8.f0 == y.f8.f0 && x.f8.f1 == y.f8.f1) && (x.f9 == y.f9 && (decide (x.f10 = y.f10) && (eqBy lvq x.f4 y.f4 && eqBy boq x.f11 y.f11))))))))))
def plainA (x y : Act) : Bool := x.f0 == y.f0 && (x.f1 == y.f1 && (x.f2 == y.f2 && (x.f3 == y.f3 && (x.f5 == y.f5 && (x.f6 == y.f6 && (x.f7 == y.f7 && ((x.f8.f0 == y.f8.f0 && x.f8.f1 == y.f8.f1) && x.f9 == y.f9)))))))
theorem sameA_parts (x y : Act) : sameA x y = (plainA x y && (decide (x.f10 = y.f10) && (eqBy lvq x.f4 y.f4 && eqBy boq x.f11 y.f11))) := by unfold sameA plainA; simp only [Bool.and_assoc]
def DataBd (x : Act) : Prop := Bytes x.f10 /\ x.f10.length <= 1048576
attribute [local go_sem high] eqRg
end Go.Proofs.YtpdinahdcedmkaaGreatDoor.Ext
namespace Go.Proofs.YtpdinahdcedmkaaGreatDoor.Ext
open Go.Proofs.YtpdinahdcedmkaaGreatDoor.P
open Go.RowKit YtpdinahdcedmkaaGreatDoorW.PrintWords YtpdinahdcedmkaaGreatDoorW.PrintLast YtpdinahdcedmkaaGreatDoorW.PrintMore Go.Proofs.YtpdinahdcedmkaaGreatDoor.Spec
theorem lvF_size (a : ByteArray) (v : Lv) : (lvF a v).size <= a.size + 202 := by
 have h1 := nameS_size 2 v.f0
 have h2 := nameS_size 1 v.f1
 unfold lvF
 simp only [ByteArray.size_append]
 show _ + (1 + _ + 1 + _) <= _
 omega
theorem lvF_fold (l : List Lv) : ∀ a : ByteArray, (l.foldl lvF a).size <= a.size + 202 * l.length := by
 induction l with
 | nil => intro a; simp
 | cons v t ih =>
   intro a
   have h1 := ih (lvF a v)
   have h2 := lvF_size a v
   rw [List.foldl_cons, List.length_cons]
   omega
theorem setsB_size (x : Act) : (setsB x).size <= 105 + 202 * x.f4.length := by
 unfold setsB
 split
 · have := nameS_size 3 x.f5
   rw [ByteArray.size_append]
   show 5 + _ <= _
   omega
 · have := lvF_fold x.f4 ⟨#[104, 115, 115]⟩
   have h : (⟨#[104, 115, 115]⟩ : ByteArray).size = 3 := rfl
   omega
theorem quoteF_len (s : ByteArray) : ∀ f pos, (quoteF s (rns s f pos)).length <= 4 * (s.size - pos) := by
 intro f
 induction f with
 | zero => intro pos; simp [rns, quoteF]
 | succ f ih =>
   intro pos
   unfold rns
   split
   · rename_i hp
     have h1 := quoteP_len s pos hp
     have h2 := width_le s pos hp
     have h3 := ih (pos + (Utf8.decode s pos).2)
     have h4 := Lib.decode_width_pos s pos hp
     unfold quoteF at h3 ⊢
     rw [List.flatMap_cons, List.length_append]
     omega
   · simp [quoteF]
theorem quoteS_size (s : ByteArray) : (quoteS s).size <= 4 * s.size + 2 := by
 have := quoteF_len s s.size 0
 unfold quoteS runesOf
 rw [strOfNums_size]
 simp only [List.length_append, List.length_cons, List.length_nil]
 omega
theorem pickS_size (l : List Bool) : (pickS l).size <= l.length + 1 := by
 unfold pickS pickL
 show (List.toArray _).size <= _
 rw [List.size_toArray]
 split
 · simp
 · simp
def sayB (l : List ByteArray) (x : Act) (c : Int) : ByteArray :=
 if c = 100 then quoteS (l.getD x.f1.toNat ByteArray.empty) else
 if c = 116 then quoteS (l.getD x.f2.toNat ByteArray.empty) else
 if c = 107 then decS (IntKind.u64.wrap x.f6) else
 if c = 105 then decS (IntKind.u64.wrap x.f7) else
 if c = 98 then decS (IntKind.u64.wrap x.f9) else
 if c = 110 then decS (IntKind.u64.wrap x.f9) else
 if c = 119 then strOfNums (hexS x.f10) else
 if c = 120 then strOfNums (hexS x.f10) else
 if c = 109 then quoteS (strOfNums x.f10) else
 if c = 114 then (decS x.f8.f0 ++ ⟨#[32]⟩) ++ decS x.f8.f1 else
 if c = 115 then setsB x else pickS x.f11
structure SayOk (l : List ByteArray) (x : Act) : Prop where
 d : 0 <= x.f1 /\ x.f1 < (l.length : Int)
 t : 0 <= x.f2 /\ x.f2 < (l.length : Int)
 nm : ∀ i, (l.getD i ByteArray.empty).size <= 1048576
 by_ : Bytes x.f10
 dl : x.f10.length <= 1048576
 pk : x.f11.length <= 1048576
 ll : x.f4.length <= 1048576
 lo : 0 <= x.f8.f0 /\ x.f8.f0 < 18446744073709551616
 hi : 0 <= x.f8.f1 /\ x.f8.f1 < 18446744073709551616
 bd : ActBd x
theorem wrap_u64_bd (n : Int) : 0 <= IntKind.u64.wrap n /\ IntKind.u64.wrap n < 18446744073709551616 := by rw [IntKind.wrap_u64]; omega
theorem sayB_size {l : List ByteArray} {x : Act} (h : SayOk l x) (c : Int) : (sayB l x c).size <= 1073741824 := by
 have h1 := quoteS_size (l.getD x.f1.toNat ByteArray.empty)
 have h2 := quoteS_size (l.getD x.f2.toNat ByteArray.empty)
 have h3 := h.nm x.f1.toNat
 have h4 := h.nm x.f2.toNat
 have h5 := decS_size _ (wrap_u64_bd x.f6).2
 have h6 := decS_size _ (wrap_u64_bd x.f7).2
 have h7 := decS_size _ (wrap_u64_bd x.f9).2
 have h8 := decS_size _ h.lo.2
 have h9 := decS_size _ h.hi.2
 have h10 := setsB_size x
 have h11 := pickS_size x.f11
 have h12 := quoteS_size (strOfNums x.f10)
 have h13 := h.dl
 have h14 := h.pk
 have h15 := h.ll
 rw [strOfNums_size] at h12
 have h16 : (strOfNums (hexS x.f10)).size = 2 * x.f10.length := by rw [strOfNums_size, hexS_len]
 have h17 : ((decS x.f8.f0 ++ ⟨#[32]⟩) ++ decS x.f8.f1).size <= 41 := by
  rw [ByteArray.size_append, ByteArray.size_append]
  show _ + 1 + _ <= _
  omega
 unfold sayB
 generalize quoteS (l.getD x.f1.toNat ByteArray.empty) = a1 at *
 generalize quoteS (l.getD x.f2.toNat ByteArray.empty) = a2 at *
 generalize quoteS (strOfNums x.f10) = a3 at *
 generalize strOfNums (hexS x.f10) = a4 at *
 generalize (decS x.f8.f0 ++ ⟨#[32]⟩) ++ decS x.f8.f1 = a5 at *
 generalize decS (IntKind.u64.wrap x.f6) = a6 at *
 generalize decS (IntKind.u64.wrap x.f7) = a7 at *
 generalize decS (IntKind.u64.wrap x.f9) = a8 at *
 generalize setsB x = a9 at *
 generalize pickS x.f11 = a10 at *
 have key : ∀ {p : Prop} [Decidable p] {a b : ByteArray}, a.size <= 1073741824 -> b.size <= 1073741824 -> (if p then a else b).size <= 1073741824 := fun {p} _ {a b} ha hb => by
  by_cases hp : p
  · rw [if_pos hp]; exact ha
  · rw [if_neg hp]; exact hb
 exact key (by omega) (key (by omega) (key (by omega) (key (by omega) (key (by omega) (key (by omega) (key (by omega) (key (by omega) (key (by omega) (key (by omega) (key (by omega) (by omega)))))))))))
def lineF (l : List ByteArray) (x : Act) (a : ByteArray) (c : UInt8) : ByteArray := a ++ (⟨#[32]⟩ ++ sayB l x ((c.toNat : Nat) : Int))
def lineB (l : List ByteArray) (x : Act) : ByteArray := (rowOf x.f0).2.data.toList.foldl (lineF l x) (rowOf x.f0).1
theorem row_ascii (d : Int) (i : Nat) (h : i < (rowOf d).2.size) : ((rowOf d).2[i]'h).toNat < 128 := by
 have key : ∀ n : Fin 18, ∀ i : Fin 8, i.val < (rowOf ((n.val : Nat) : Int)).2.size -> ((rowOf ((n.val : Nat) : Int)).2.data.toList.getD i.val 0).toNat < 128 := by decide +kernel
 have hsz : ∀ n : Fin 18, (rowOf ((n.val : Nat) : Int)).2.size <= 8 := by decide +kernel
 have e : ∀ (s : ByteArray) (h : i < s.size), s[i]'h = s.data.toList.getD i 0 := fun s h => by
  rw [List.getD_eq_getElem?_getD, List.getElem?_eq_getElem (by rw [Array.length_toList]; exact h)]; rfl
 rw [e]
 by_cases hd : 0 <= d /\ d < 18
 · obtain ⟨n, rfl⟩ := Int.eq_ofNat_of_zero_le hd.1
   have hn : n < 18 := by omega
   have := hsz ⟨n, hn⟩
   exact key ⟨n, hn⟩ ⟨i, by simp only at this; omega⟩ h
 · exfalso
   unfold rowOf at h
   rw [if_neg hd] at h
   exact absurd h (by simp [ByteArray.size])
theorem row_drop (s : ByteArray) (pos : Nat) (h : pos < s.size) : s.data.toList.drop pos = s[pos] :: s.data.toList.drop (pos + 1) := by
 rw [List.drop_eq_getElem_cons (by rw [Array.length_toList]; exact h)]
 rfl
theorem row_sizes (d : Int) : (rowOf d).2.size <= 8 /\ (rowOf d).1.size <= 20 := by
 have hsz : ∀ n : Fin 18, (rowOf ((n.val : Nat) : Int)).2.size <= 8 /\ (rowOf ((n.val : Nat) : Int)).1.size <= 20 := by decide +kernel
 by_cases hd : 0 <= d /\ d < 18
 · obtain ⟨n, rfl⟩ := Int.eq_ofNat_of_zero_le hd.1
   exact hsz ⟨n, by omega⟩
 · unfold rowOf; rw [if_neg hd]; decide
theorem row_lets (d : Int) : ∀ c ∈ (rowOf d).2.data.toList, c ∈ lets := by
 have hsz : ∀ n : Fin 18, ∀ c ∈ (rowOf ((n.val : Nat) : Int)).2.data.toList, c ∈ lets := by decide +kernel
 by_cases hd : 0 <= d /\ d < 18
 · obtain ⟨n, rfl⟩ := Int.eq_ofNat_of_zero_le hd.1
   exact hsz ⟨n, by omega⟩
 · unfold rowOf; rw [if_neg hd]; intro c hc; cases hc
end Go.Proofs.YtpdinahdcedmkaaGreatDoor.Ext
namespace Go.Proofs.YtpdinahdcedmkaaGreatDoor.ExtP
open Go.Proofs.YtpdinahdcedmkaaGreatDoor.Ext
open Go.RowKit Go.Shelf YtpdinahdcedmkaaGreatDoorW.PrintWords YtpdinahdcedmkaaGreatDoorW.PrintLast YtpdinahdcedmkaaGreatDoorW.PrintMore Go.Proofs.YtpdinahdcedmkaaGreatDoor.Spec
attribute [local go_sem] Oper.semAt_some
def lowL (kind : Int) (i : Nat) : List Int := ((List.range i).map Int.ofNat).filter (known kind)
def highL (kind first : Int) (i : Nat) : List Int := ((List.range i).map fun j => first + Int.ofNat j).filter (known kind)
def codesL (kind first : Int) : List Int := lowL kind 25 ++ highL kind first 64
theorem lowL_succ (kind : Int) (i : Nat) : lowL kind (i + 1) = lowL kind i ++ (if known kind i = true then [(i : Int)] else []) := by
 unfold lowL
 rw [List.range_succ, List.map_append, List.filter_append]
 congr 1
 simp [List.filter_cons]
theorem highL_succ (kind first : Int) (i : Nat) : highL kind first (i + 1) = highL kind first i ++ (if known kind (first + i) = true then [first + (i : Int)] else []) := by
 unfold highL
 rw [List.range_succ, List.map_append, List.filter_append]
 congr 1
 simp [List.filter_cons]
theorem lowL_len (kind : Int) (i : Nat) : (lowL kind i).length <= i := by
 unfold lowL
 exact Nat.le_trans (List.length_filter_le _ _) (by simp)
theorem highL_len (kind first : Int) (i : Nat) : (highL kind first i).length <= i := by
 unfold highL
 exact Nat.le_trans (List.length_filter_le _ _) (by simp)
theorem lowL_pre (kind : Int) (i : Nat) : ∀ m, lowL kind i <+: lowL kind (i + m)
 | 0 => ⟨[], by simp⟩
 | m + 1 => (lowL_pre kind i m).trans ⟨_, (lowL_succ kind (i + m)).symm⟩
theorem highL_pre (kind first : Int) (i : Nat) : ∀ m, highL kind first i <+: highL kind first (i + m)
 | 0 => ⟨[], by simp⟩
 | m + 1 => (highL_pre kind first i m).trans ⟨_, (highL_succ kind first (i + m)).symm⟩
theorem low_codes (kind first : Int) (i : Nat) (hi : i < 25) (hk : known kind i = true) : lowL kind i ++ [(i : Int)] <+: codesL kind first := by
 have e := lowL_succ kind i
 rw [if_pos hk] at e
 rw [<- e]
 have := lowL_pre kind (i + 1) (24 - i)
 rw [show i + 1 + (24 - i) = 25 by omega] at this
 exact this.trans ⟨_, rfl⟩
theorem high_codes (kind first : Int) (i : Nat) (hi : i < 64) (hk : known kind (first + i) = true) : lowL kind 25 ++ (highL kind first i ++ [first + (i : Int)]) <+: codesL kind first := by
 have e := highL_succ kind first i
 rw [if_pos hk] at e
 rw [<- e]
 have := highL_pre kind first (i + 1) (63 - i)
 rw [show i + 1 + (63 - i) = 64 by omega] at this
 obtain ⟨t, ht⟩ := this
 exact ⟨t, by unfold codesL; rw [<- ht, List.append_assoc]⟩
theorem codes1_in (n : Nat) (hn : 1 <= n) (l Bk Bf n₀ : Nat) (kind first : Int) (h0 : 0 <= first) (h1 : first + 64 < 4294967296) (J Jx : List Int -> World -> Prop)
 (hJ : ∀ s W W', J s W -> Below W.heap.size W W' -> J s W')
 (hY : ∀ pre x W, J pre W -> pre.length < 89 -> YieldAt Fence.wide (n - 1) Tryz.prog l #[.int .u32 x] W fun e W' =>
   (e = .returned (.bool true) /\ J (pre ++ [x]) W' /\ Below n₀ W W') \/ (e = .returned (.bool false) /\ Jx (pre ++ [x]) W'))
 (W : World) (hBk : Bk < n₀) (hBf : Bf < n₀) (hck : W.cell? ⟨Bk, 0, none⟩ = some (.int .i64 kind)) (hcf : W.cell? ⟨Bf, 0, none⟩ = some (.int .u32 first)) (hJ0 : J [] W) :
 CallsIn Fence.wide n Tryz.prog 178 #[.func (.yield l) #[] #[], .pointer (some ⟨Bk, 0, none⟩), .pointer (some ⟨Bf, 0, none⟩)] W fun e W' => (∃ v, e = .returned v) /\
  ((∃ ys, ys = codesL kind first /\ J ys W') \/ (∃ pre, pre <+: codesL kind first /\ Jx pre W')) := by
 refine callsIn_of_wp Tryz.func178 rfl trivial ?_ rfl
 simp only [Tryz.ntmps178, List.size_toArray, List.length_cons, List.length_nil, Nat.reduceAdd, Nat.reduceSub, Array.replicate_succ, Array.replicate_zero, List.push_toArray, List.append_toArray, List.nil_append, List.cons_append]
 gi_wp2
 gi_loopw [7] (fun v7 wr => ∃ i : Nat, i <= 25 /\ v7 = .int .u32 (i : Int) /\ wr.cell? ⟨Bk, 0, none⟩ = some (.int .i64 kind) /\ wr.cell? ⟨Bf, 0, none⟩ = some (.int .u32 first) /\ Zz (J (lowL kind i) wr)) (fun v7 _ => 25 - (intOf v7).toNat)
 case atStart => exact ⟨0, by omega, rfl, hck, hcf, ⟨hJ0⟩⟩
 case round =>
  obtain ⟨i, hi, rfl, hck1, hcf1, HJ1⟩ := hrel
  by_cases hlt : i < 25
  · have hkc := Lib.hid (fun W => c_known kind (i : Int) W (by omega) (by omega))
    have hlen : (lowL kind i).length < 89 := by have := lowL_len kind i; omega
    by_cases hkn : known kind (i : Int) = true
    · rw [hkn] at hkc
      have HK := Zz.mk hkn
      have hpr := Zz.mk (low_codes kind first i hlt hkn)
      clear hkn
      gi_wp2_with (first
       | (refine ⟨trivial, ?_⟩
          gi_at_call 166
          refine (callsIn_wide.2 (hkc.out _)).mono ?_
          rintro e W2 ⟨rfl, hb2⟩
          have HJ2 := Zz.mk (hJ _ _ _ HJ1.out hb2)
          have hck2 := pw_cell_below hb2 hck1
          have hcf2 := pw_cell_below hb2 hcf1
          obtain ⟨fn, tmps, assign, body, hy, hR⟩ := hY (lowL kind i) ((i : Int)) W2 HJ2.out hlen
          clear hb2)
       | fail)
      refine hR.mono ?_
      rintro e W3 (⟨rfl, hJ3, hk3⟩ | ⟨rfl, hJx3⟩)
      · have hck3 : W3.cell? ⟨Bk, 0, none⟩ = some (.int .i64 kind) := (hk3.cell (p := ⟨Bk, 0, none⟩) hBk).trans hck2
        have hcf3 : W3.cell? ⟨Bf, 0, none⟩ = some (.int .u32 first) := (hk3.cell (p := ⟨Bf, 0, none⟩) hBf).trans hcf2
        have HJ3 : Zz (J (lowL kind (i + 1)) W3) := ⟨by have hkn := HK.out; rw [lowL_succ kind i, if_pos hkn]; exact hJ3⟩
        clear hJ3 hk3 hck1 hcf1 hck2 hcf2 hy hR
        gi_wp2
        go_roundw
        case rel => exact ⟨i + 1, by omega, by go_num, hck3, hcf3, HJ3⟩
        case measure => simp [intOf]; omega
      · gi_wp2
        refine bodyPost_ret (results_none rfl _ _ _) rfl ?_
        exact ⟨⟨_, rfl⟩, .inr ⟨_, hpr.out, by first | exact hJx3 | (rw [<- List.append_assoc]; exact hJx3)⟩⟩
    · have hkf : known kind (i : Int) = false := by simpa using hkn
      rw [hkf] at hkc
      have HJn : Zz (lowL kind (i + 1) = lowL kind i) := ⟨by rw [lowL_succ kind i, if_neg hkn, List.append_nil]⟩
      clear hkn
      gi_wp2_with (first
       | (refine ⟨trivial, ?_⟩
          gi_at_call 166
          refine (callsIn_wide.2 (hkc.out _)).mono ?_
          rintro e W2 ⟨rfl, hb2⟩
          have HJ2 := Zz.mk (hJ _ _ _ HJ1.out hb2)
          have hck2 := pw_cell_below hb2 hck1
          have hcf2 := pw_cell_below hb2 hcf1
          clear hb2)
       | fail)
      refine ⟨fun _ h => (by cases h), ?_⟩
      gi_wp2
      go_roundw
      case rel => exact ⟨i + 1, by omega, by go_num, hck2, hcf2, ⟨by rw [HJn.out]; exact HJ2.out⟩⟩
      case measure => simp [intOf]; omega
  · obtain rfl : i = 25 := by omega
    gi_wp2
    gi_loopw [20] (fun v20 wr => ∃ i : Nat, i <= 64 /\ v20 = .int .u32 (i : Int) /\ wr.cell? ⟨Bk, 0, none⟩ = some (.int .i64 kind) /\ wr.cell? ⟨Bf, 0, none⟩ = some (.int .u32 first) /\ Zz (J (lowL kind 25 ++ highL kind first i) wr)) (fun v20 _ => 64 - (intOf v20).toNat)
    case atStart => exact ⟨0, by omega, rfl, hck1, hcf1, ⟨by have := HJ1.out; simpa [highL] using this⟩⟩
    case round =>
     clear HJ1 hck1 hcf1
     obtain ⟨i, hi, rfl, hck1, hcf1, HJ1⟩ := hrel
     by_cases hlt : i < 64
     · have hkc := Lib.hid (fun W => c_known kind (first + (i : Int)) W (by omega) (by omega))
       have hlen : (lowL kind 25 ++ highL kind first i).length < 89 := by have := lowL_len kind 25; have := highL_len kind first i; rw [List.length_append]; omega
       by_cases hkn : known kind (first + (i : Int)) = true
       · rw [hkn] at hkc
         have HK := Zz.mk hkn
         have hpr := Zz.mk (high_codes kind first i hlt hkn)
         clear hkn
         gi_wp2_with (first
          | (refine ⟨trivial, ?_⟩
             gi_at_call 166
             refine (callsIn_wide.2 (hkc.out _)).mono ?_
             rintro e W2 ⟨rfl, hb2⟩
             have HJ2 := Zz.mk (hJ _ _ _ HJ1.out hb2)
             have hck2 := pw_cell_below hb2 hck1
             have hcf2 := pw_cell_below hb2 hcf1
             obtain ⟨fn, tmps, assign, body, hy, hR⟩ := hY (lowL kind 25 ++ highL kind first i) ((first + (i : Int))) W2 HJ2.out hlen
             clear hb2)
          | fail)
         refine hR.mono ?_
         rintro e W3 (⟨rfl, hJ3, hk3⟩ | ⟨rfl, hJx3⟩)
         · have hck3 : W3.cell? ⟨Bk, 0, none⟩ = some (.int .i64 kind) := (hk3.cell (p := ⟨Bk, 0, none⟩) hBk).trans hck2
           have hcf3 : W3.cell? ⟨Bf, 0, none⟩ = some (.int .u32 first) := (hk3.cell (p := ⟨Bf, 0, none⟩) hBf).trans hcf2
           have HJ3 : Zz (J (lowL kind 25 ++ highL kind first (i + 1)) W3) := ⟨by have hkn := HK.out; rw [highL_succ kind first i, if_pos hkn, <- List.append_assoc]; exact hJ3⟩
           clear hJ3 hk3 hck1 hcf1 hck2 hcf2 hy hR
           gi_wp2
           go_roundw
           case rel =>
            refine ⟨_, _, _, _, _, _, _, _, _, _, _, _, _, _, _, _, _, _, ?_, rfl⟩
            exact ⟨i + 1, by omega, by go_num, hck3, hcf3, HJ3⟩
           case measure => simp [intOf]; omega
         · gi_wp2
           refine bodyPost_ret (results_none rfl _ _ _) rfl ?_
           exact ⟨⟨_, rfl⟩, .inr ⟨_, hpr.out, by first | exact hJx3 | (rw [<- List.append_assoc]; exact hJx3)⟩⟩
       · have hkf : known kind (first + (i : Int)) = false := by simpa using hkn
         rw [hkf] at hkc
         have HJn : Zz (lowL kind 25 ++ highL kind first (i + 1) = lowL kind 25 ++ highL kind first i) := ⟨by rw [highL_succ kind first i, if_neg hkn, List.append_nil]⟩
         clear hkn
         gi_wp2_with (first
          | (refine ⟨trivial, ?_⟩
             gi_at_call 166
             refine (callsIn_wide.2 (hkc.out _)).mono ?_
             rintro e W2 ⟨rfl, hb2⟩
             have HJ2 := Zz.mk (hJ _ _ _ HJ1.out hb2)
             have hck2 := pw_cell_below hb2 hck1
             have hcf2 := pw_cell_below hb2 hcf1
             clear hb2)
          | fail)
         refine ⟨fun _ h => (by cases h), ?_⟩
         gi_wp2
         go_roundw
         case rel =>
          refine ⟨_, _, _, _, _, _, _, _, _, _, _, _, _, _, _, _, _, _, ?_, rfl⟩
          exact ⟨i + 1, by omega, by go_num, hck2, hcf2, ⟨by rw [HJn.out]; exact HJ2.out⟩⟩
         case measure => simp [intOf]; omega
     · obtain rfl : i = 64 := by omega
       gi_wp2
       go_end0
       exact ⟨⟨_, rfl⟩, .inl ⟨_, rfl, HJ1.out⟩⟩
theorem codes_stops (n : Nat) (hn : 1 <= n) (Bk Bf n₀ : Nat) (kind first : Int) (h0 : 0 <= first) (h1 : first + 64 < 4294967296) (w : World) (hBk : Bk < n₀) (hBf : Bf < n₀) (hn₀ : n₀ <= w.heap.size)
 (hck : w.cell? ⟨Bk, 0, none⟩ = some (.int .i64 kind)) (hcf : w.cell? ⟨Bf, 0, none⟩ = some (.int .u32 first)) :
 SeqStopsK Fence.wide n Tryz.prog 178 #[.pointer (some ⟨Bk, 0, none⟩), .pointer (some ⟨Bf, 0, none⟩)] (fun x : Int => #[Value.int .u32 x]) (Below n₀) (fun ys => ys = codesL kind first) (fun pre => pre <+: codesL kind first) 89 w := fun l J Jx W hW hJ _ hY hJ0 =>
 codes1_in n hn l Bk Bf n₀ kind first h0 h1 J Jx (fun s A B h hb => hJ s A B none h (grown_of_below hb none) (fun r e => by cases e)) hY W hBk hBf ((hW.cell (p := ⟨Bk, 0, none⟩) (by show Bk < _; omega)).trans hck) ((hW.cell (p := ⟨Bf, 0, none⟩) (by show Bf < _; omega)).trans hcf) hJ0
theorem c_codes (kind first : Int) (w : World) :
 Calls Tryz.prog 170 #[.int .i64 kind, .int .u32 first] w fun e w' => e = .returned (.func (.func 178) #[] #[.pointer (some ⟨w.heap.size, 0, none⟩), .pointer (some ⟨w.heap.size + 1, 0, none⟩)]) /\ w' = (w.alloc (.cells #[.int .i64 kind] 3)).alloc (.cells #[.int .u32 first] 27) := by
 go_enter Tryz.func170, Tryz.ntmps170
 go_wp2
 go_ret
 exact ⟨rfl, rfl⟩
theorem c_OtsCodes (w : World) :
 Calls Tryz.prog 152 #[] w fun e w' => e = .returned (.func (.func 178) #[] #[.pointer (some ⟨w.heap.size, 0, none⟩), .pointer (some ⟨w.heap.size + 1, 0, none⟩)]) /\ w' = (w.alloc (.cells #[.int .i64 1] 3)).alloc (.cells #[.int .u32 4026531840] 27) := by
 go_enter Tryz.func152, Tryz.ntmps152
 go_wp2_with (first | (go_at_call 170; refine (c_codes _ _ _).mono ?_; rintro e v ⟨rfl, rfl⟩) | fail)
 go_ret
 exact ⟨rfl, rfl⟩
theorem info_u32 : (Tryz.prog.info? 27).map (fun i => (i.zero, i.size, i.bytes)) = some (some (.int .u32 0), 1, 4) := by kernel_rfl
theorem codesL_len (kind first : Int) : (codesL kind first).length <= 89 := by
 unfold codesL
 have := lowL_len kind 25
 have := highL_len kind first 64
 rw [List.length_append]
 omega
theorem row_u32 {W : World} {base : Nat} {v : Value} {pre : List Int} (h : W.ownsRow base 27 1 v pre.length (pre.map (Value.int .u32))) : Kd.R (Kd.int .u32) 27 W base (fun _ => True) v pre := Kd.R_of_own (h1 := fun _ => rfl) h (fun _ _ => trivial)
end Go.Proofs.YtpdinahdcedmkaaGreatDoor.ExtP
namespace Go.Proofs.YtpdinahdcedmkaaGreatDoor.ExtP
open Go.Proofs.YtpdinahdcedmkaaGreatDoor.Ext
open Go.RowKit YtpdinahdcedmkaaGreatDoorW.PrintWords YtpdinahdcedmkaaGreatDoorW.PrintLast YtpdinahdcedmkaaGreatDoorW.PrintMore Go.Proofs.YtpdinahdcedmkaaGreatDoor.Spec
def firstOf (kind : Int) : Int := if kind = 3 then 4043309056 else 4026531840
def codesOf (kind : Int) : List Int := if kind = 1 \/ kind = 2 \/ kind = 3 then codesL kind (firstOf kind) else []
theorem c_LmsCodes (w : World) :
 Calls Tryz.prog 153 #[] w fun e w' => e = .returned (.func (.func 178) #[] #[.pointer (some ⟨w.heap.size, 0, none⟩), .pointer (some ⟨w.heap.size + 1, 0, none⟩)]) /\ w' = (w.alloc (.cells #[.int .i64 2] 3)).alloc (.cells #[.int .u32 4026531840] 27) := by
 go_enter Tryz.func153, Tryz.ntmps153
 go_wp2_with (first | (go_at_call 170; refine (c_codes _ _ _).mono ?_; rintro e v ⟨rfl, rfl⟩) | fail)
 go_ret
 exact ⟨rfl, rfl⟩
theorem c_XmssCodes (w : World) :
 Calls Tryz.prog 149 #[] w fun e w' => e = .returned (.func (.func 178) #[] #[.pointer (some ⟨w.heap.size, 0, none⟩), .pointer (some ⟨w.heap.size + 1, 0, none⟩)]) /\ w' = (w.alloc (.cells #[.int .i64 3] 3)).alloc (.cells #[.int .u32 4043309056] 27) := by
 go_enter Tryz.func149, Tryz.ntmps149
 go_wp2_with (first | (go_at_call 170; refine (c_codes _ _ _).mono ?_; rintro e v ⟨rfl, rfl⟩) | fail)
 go_ret
 exact ⟨rfl, rfl⟩
/-! ### the document's side -/
theorem r_Is (k c : Int) (w : World) (g0 : 0 <= c) (g1 : c < 4294967296) :
 Calls Tryz.prog 116 #[.int .i64 k, .int .u32 c] w fun e w' => e = .returned (.bool (known k c)) /\ Below w.heap.size w w' := by
 by_cases h1 : k = 1
 · subst h1
   rw [show known 1 c = ((ots c).2 == 0) from rfl]
   have Co := fun w => r_Ots c w g0 g1
   have co := Lib.hid Co; clear Co
   go_enter Tryz.func116, Tryz.ntmps116
   go_wp2_with (first
    | (go_at_call 117; refine (co.out _).mono ?_; rintro e w1 ⟨rfl, hb⟩))
   go_ret
   exact ⟨rfl, hb⟩
 by_cases h2 : k = 2
 · subst h2
   rw [show known 2 c = ((lms c).2 == 0) from rfl]
   have Co := fun w => r_Lms c w g0 g1
   have co := Lib.hid Co; clear Co
   go_enter Tryz.func116, Tryz.ntmps116
   go_wp2_with (first
    | (go_at_call 118; refine (co.out _).mono ?_; rintro e w1 ⟨rfl, hb⟩))
   go_ret
   exact ⟨rfl, hb⟩
 by_cases h3 : k = 3
 · subst h3
   rw [show known 3 c = ((xms c).2 == 0) from rfl]
   have Co := fun w => r_Xmss c w g0 g1
   have co := Lib.hid Co; clear Co
   go_enter Tryz.func116, Tryz.ntmps116
   go_wp2_with (first
    | (go_at_call 114; refine (co.out _).mono ?_; rintro e w1 ⟨rfl, hb⟩))
   go_ret
   exact ⟨rfl, hb⟩
 have hk : known k c = false := by unfold known; rw [if_neg h1, if_neg h2, if_neg h3]
 rw [hk]
 clear hk
 have t1 : (k == 1) = false := beq_eq_false_iff_ne.2 h1
 have t2 : (k == 2) = false := beq_eq_false_iff_ne.2 h2
 have t3 : (k == 3) = false := beq_eq_false_iff_ne.2 h3
 go_enter Tryz.func116, Tryz.ntmps116
 go_wp2
 go_ret
 exact ⟨rfl, Below.refl _ _⟩
def bothL (k : Int) (i : Nat) : List Int := (List.range i).flatMap fun (j : Nat) => (if known k (4026531840 + (j : Int)) = true then [4026531840 + (j : Int)] else []) ++ (if known k (4043309056 + (j : Int)) = true then [4043309056 + (j : Int)] else [])
theorem bothL_succ (k : Int) (i : Nat) : bothL k (i + 1) = bothL k i ++ ((if known k (4026531840 + (i : Int)) = true then [4026531840 + (i : Int)] else []) ++ (if known k (4043309056 + (i : Int)) = true then [4043309056 + (i : Int)] else [])) := by
 unfold bothL
 rw [List.range_succ, List.flatMap_append]
 simp
theorem bothL_len (k : Int) : ∀ i : Nat, (bothL k i).length <= 2 * i
 | 0 => by simp [bothL]
 | i + 1 => by
   have := bothL_len k i
   rw [bothL_succ, List.length_append, List.length_append]
   have h1 : (if known k (4026531840 + (i : Int)) = true then [4026531840 + (i : Int)] else []).length <= 1 := by split <;> simp
   have h2 : (if known k (4043309056 + (i : Int)) = true then [4043309056 + (i : Int)] else []).length <= 1 := by split <;> simp
   omega
def refCodes (k : Int) : List Int := lowL k 25 ++ bothL k 64
theorem low1 (k : Int) : lowL k 1 = [] := by
 have : known k 0 = false := by
  unfold known
  split
  · decide +kernel
  · split
    · decide +kernel
    · split
      · decide +kernel
      · rfl
 rw [lowL_succ]
 simp [lowL, this]
theorem refCodes_eq (k : Int) (h : k = 1 \/ k = 2 \/ k = 3) : refCodes k = codesOf k := by
 rcases h with rfl | rfl | rfl <;> decide +kernel
theorem r_Codes (k : Int) (w : World) :
 Calls Tryz.prog 129 #[.int .i64 k] w fun e w' => ∃ v, e = .returned v /\ Kd.R (Kd.int .u32) 27 w' w.heap.size (fun _ => True) v (refCodes k) /\ Below w.heap.size w w' := by
 go_enter Tryz.func129, Tryz.ntmps129
 go_wp2
 go_loopw [3, 4] (fun v3 v4 wr => ∃ i : Nat, 1 <= i /\ i <= 25 /\ v4 = .int .u32 (i : Int) /\ Zz (Kd.R (Kd.int .u32) 27 wr w.heap.size (fun _ => True) v3 (lowL k i)) /\ Zz (Below w.heap.size w wr)) (fun _ v4 _ => 25 - (intOf v4).toNat)
 case atStart => exact ⟨1, by omega, by omega, rfl, ⟨by rw [low1]; exact row_u32 (World.ownsRow_lit (base := w.heap.size) (e := 27) (size := 1) w #[] 0 (Nat.le_refl _) (by simp [maxLen]) (by simp))⟩, ⟨(Below.refl _ _).alloc (Nat.le_refl _) _⟩⟩
 case round =>
  obtain ⟨i, hi1, hi2, rfl, hO, hB⟩ := hrel
  by_cases hlt : i < 25
  · have hkc := Lib.hid (fun W => r_Is k (i : Int) W (by omega) (by omega))
    have hlen := lowL_len k i
    by_cases hkn : known k (i : Int) = true
    · have KC := hkc.out
      rw [hkn] at KC
      have hkc := Lib.hid KC
      have HE : Zz (lowL k (i + 1) = lowL k i ++ [(i : Int)]) := ⟨by rw [lowL_succ, if_pos hkn]⟩
      clear KC hkn
      generalize lowL k i = L1 at *
      go_wp2_with (first
       | (go_at_call 116
          refine (hkc.out _).mono ?_
          rintro e v ⟨rfl, hb⟩
          have HO1 := Zz.mk (Kd.R_below hO.out hb)
          have HB1 := Zz.mk (hB.out.trans (hb.mono hB.out.size))
          clear hb)
       | ((with_reducible refine gate_builtin (b := .append) (xs := #[.tmp 14, .tmp 16]) rfl ?_)
          at_builtin
          refine Kd.R_append (Kd.int .u32) (w0 := w) w.heap.size rfl (.tmp 14) (.tmp 16) 155 27 (.int .u32 0) 4 rfl Tryz.underlying155 info_u32 rfl (by decide) (by omega) u3 L1 (i : Int) [.int .u32 (i : Int)] (fun _ => True) (fun _ => False) rfl rfl rfl (fun _ hk => hk.elim) (fun _ _ => trivial) HO1.out HB1.out HB1.out.size (by omega) ?_
          intro v2 w2 ho hb hg hat
          have HB2 := Zz.mk hb
          have HO2 := Zz.mk ho
          clear ho hb hg hat)
       | fail)
      go_roundw
      case rel => exact ⟨i + 1, by omega, by omega, by go_num, ⟨by rw [HE.out]; exact HO2.out⟩, HB2⟩
      case measure => simp [intOf]; omega
    · have hkf : known k (i : Int) = false := by simpa using hkn
      have KC := hkc.out
      rw [hkf] at KC
      have hkc := Lib.hid KC
      have HE : Zz (lowL k (i + 1) = lowL k i) := ⟨by rw [lowL_succ, if_neg hkn, List.append_nil]⟩
      clear KC hkn hkf
      generalize lowL k i = L1 at *
      go_wp2_with (first
       | (go_at_call 116
          refine (hkc.out _).mono ?_
          rintro e v ⟨rfl, hb⟩
          have HO1 := Zz.mk (Kd.R_below hO.out hb)
          have HB1 := Zz.mk (hB.out.trans (hb.mono hB.out.size))
          clear hb)
       | fail)
      go_roundw
      case rel => exact ⟨i + 1, by omega, by omega, by go_num, ⟨by rw [HE.out]; exact HO1.out⟩, HB1⟩
      case measure => simp [intOf]; omega
  · obtain rfl : i = 25 := by omega
    go_wp2
    go_loopw [3, 18] (fun v3 v18 wr => ∃ i : Nat, i <= 64 /\ v18 = .int .u32 (i : Int) /\ Zz (Kd.R (Kd.int .u32) 27 wr w.heap.size (fun _ => True) v3 (lowL k 25 ++ bothL k i)) /\ Zz (Below w.heap.size w wr)) (fun _ v18 _ => 64 - (intOf v18).toNat)
    case atStart => exact ⟨0, by omega, rfl, ⟨by have := hO.out; simpa [bothL] using this⟩, hB⟩
    case round =>
     clear hO hB
     obtain ⟨i, hi2, rfl, hO, hB⟩ := hrel
     by_cases hlt : i < 64
     · have K1 := fun W => r_Is k (4026531840 + (i : Int)) W (by omega) (by omega)
       have K2 := fun W => r_Is k (4043309056 + (i : Int)) W (by omega) (by omega)
       cases hkn1 : known k (4026531840 + (i : Int)) with
       | true =>
         cases hkn2 : known k (4043309056 + (i : Int)) with
         | true =>
           rw [hkn1] at K1
           rw [hkn2] at K2
           have hk1 := Lib.hid K1
           have hk2 := Lib.hid K2
           have HE : Zz (lowL k 25 ++ bothL k (i + 1) = lowL k 25 ++ bothL k i ++ [4026531840 + (i : Int)] ++ [4043309056 + (i : Int)]) := ⟨by rw [bothL_succ, hkn1, hkn2]; simp⟩
           clear K1 K2 hkn1 hkn2
           have hlen : (lowL k 25 ++ bothL k i).length <= 200 := by have := lowL_len k 25; have := bothL_len k i; rw [List.length_append]; omega
           generalize lowL k 25 ++ bothL k i = L1 at *
           go_wp2_with (first
            | (go_at_call 116
               first
               | (with_reducible refine (hk2.out _).mono ?_
                  rintro e vB ⟨rfl, hb⟩
                  have HO3 := Zz.mk (Kd.R_below HO2.out hb)
                  have HB3 := Zz.mk (HB2.out.trans (hb.mono HB2.out.size))
                  clear hb)
               | (with_reducible refine (hk1.out _).mono ?_
                  rintro e vA ⟨rfl, hb⟩
                  have HO1 := Zz.mk (Kd.R_below hO.out hb)
                  have HB1 := Zz.mk (hB.out.trans (hb.mono hB.out.size))
                  clear hb))
            | ((with_reducible refine gate_builtin (b := .append) (xs := #[.tmp 25, .tmp 28]) rfl ?_)
               at_builtin
               refine Kd.R_append (Kd.int .u32) (w0 := w) w.heap.size rfl (.tmp 25) (.tmp 28) 155 27 (.int .u32 0) 4 rfl Tryz.underlying155 info_u32 rfl (by decide) (by omega) u3 (L1) (4026531840 + (i : Int)) [.int .u32 (4026531840 + (i : Int))] (fun _ => True) (fun _ => False) rfl rfl rfl (fun _ hk => hk.elim) (fun _ _ => trivial) HO1.out HB1.out HB1.out.size (by omega) ?_
               intro v2 w2 ho hb hg hat
               have HB2 := Zz.mk hb
               have HO2 := Zz.mk ho
               clear ho hb hg hat)
            | ((with_reducible refine gate_builtin (b := .append) (xs := #[.tmp 34, .tmp 37]) rfl ?_)
               at_builtin
               refine Kd.R_append (Kd.int .u32) (w0 := w) w.heap.size rfl (.tmp 34) (.tmp 37) 155 27 (.int .u32 0) 4 rfl Tryz.underlying155 info_u32 rfl (by decide) (by omega) v2 (L1 ++ [4026531840 + (i : Int)]) (4043309056 + (i : Int)) [.int .u32 (4043309056 + (i : Int))] (fun _ => True) (fun _ => False) rfl rfl rfl (fun _ hk => hk.elim) (fun _ _ => trivial) HO3.out HB3.out HB3.out.size (by simp; omega) ?_
               intro v4 w4 ho hb hg hat
               have HB4 := Zz.mk hb
               have HO4 := Zz.mk ho
               clear ho hb hg hat)
            | fail)
           go_roundw
           case rel =>
            repeat apply Exists.intro
            refine ⟨?_, rfl⟩
            exact ⟨i + 1, by omega, by go_num, ⟨by rw [HE.out]; first | exact HO4.out | (have := HO4.out; simpa using this)⟩, HB4⟩
           case measure => simp [intOf]; omega
         | false =>
           rw [hkn1] at K1
           rw [hkn2] at K2
           have hk1 := Lib.hid K1
           have hk2 := Lib.hid K2
           have HE : Zz (lowL k 25 ++ bothL k (i + 1) = lowL k 25 ++ bothL k i ++ [4026531840 + (i : Int)]) := ⟨by rw [bothL_succ, hkn1, hkn2]; simp⟩
           clear K1 K2 hkn1 hkn2
           have hlen : (lowL k 25 ++ bothL k i).length <= 200 := by have := lowL_len k 25; have := bothL_len k i; rw [List.length_append]; omega
           generalize lowL k 25 ++ bothL k i = L1 at *
           go_wp2_with (first
            | (go_at_call 116
               first
               | (with_reducible refine (hk2.out _).mono ?_
                  rintro e vB ⟨rfl, hb⟩
                  have HO3 := Zz.mk (Kd.R_below HO2.out hb)
                  have HB3 := Zz.mk (HB2.out.trans (hb.mono HB2.out.size))
                  clear hb)
               | (with_reducible refine (hk1.out _).mono ?_
                  rintro e vA ⟨rfl, hb⟩
                  have HO1 := Zz.mk (Kd.R_below hO.out hb)
                  have HB1 := Zz.mk (hB.out.trans (hb.mono hB.out.size))
                  clear hb))
            | ((with_reducible refine gate_builtin (b := .append) (xs := #[.tmp 25, .tmp 28]) rfl ?_)
               at_builtin
               refine Kd.R_append (Kd.int .u32) (w0 := w) w.heap.size rfl (.tmp 25) (.tmp 28) 155 27 (.int .u32 0) 4 rfl Tryz.underlying155 info_u32 rfl (by decide) (by omega) u3 (L1) (4026531840 + (i : Int)) [.int .u32 (4026531840 + (i : Int))] (fun _ => True) (fun _ => False) rfl rfl rfl (fun _ hk => hk.elim) (fun _ _ => trivial) HO1.out HB1.out HB1.out.size (by omega) ?_
               intro v2 w2 ho hb hg hat
               have HB2 := Zz.mk hb
               have HO2 := Zz.mk ho
               clear ho hb hg hat)
            | fail)
           go_roundw
           case rel =>
            repeat apply Exists.intro
            refine ⟨?_, rfl⟩
            exact ⟨i + 1, by omega, by go_num, ⟨by rw [HE.out]; first | exact HO3.out | (have := HO3.out; simpa using this)⟩, HB3⟩
           case measure => simp [intOf]; omega
       | false =>
         cases hkn2 : known k (4043309056 + (i : Int)) with
         | true =>
           rw [hkn1] at K1
           rw [hkn2] at K2
           have hk1 := Lib.hid K1
           have hk2 := Lib.hid K2
           have HE : Zz (lowL k 25 ++ bothL k (i + 1) = lowL k 25 ++ bothL k i ++ [4043309056 + (i : Int)]) := ⟨by rw [bothL_succ, hkn1, hkn2]; simp⟩
           clear K1 K2 hkn1 hkn2
           have hlen : (lowL k 25 ++ bothL k i).length <= 200 := by have := lowL_len k 25; have := bothL_len k i; rw [List.length_append]; omega
           generalize lowL k 25 ++ bothL k i = L1 at *
           go_wp2_with (first
            | (go_at_call 116
               first
               | (with_reducible refine (hk2.out _).mono ?_
                  rintro e vB ⟨rfl, hb⟩
                  have HO3 := Zz.mk (Kd.R_below HO1.out hb)
                  have HB3 := Zz.mk (HB1.out.trans (hb.mono HB1.out.size))
                  clear hb)
               | (with_reducible refine (hk1.out _).mono ?_
                  rintro e vA ⟨rfl, hb⟩
                  have HO1 := Zz.mk (Kd.R_below hO.out hb)
                  have HB1 := Zz.mk (hB.out.trans (hb.mono hB.out.size))
                  clear hb))
            | ((with_reducible refine gate_builtin (b := .append) (xs := #[.tmp 34, .tmp 37]) rfl ?_)
               at_builtin
               refine Kd.R_append (Kd.int .u32) (w0 := w) w.heap.size rfl (.tmp 34) (.tmp 37) 155 27 (.int .u32 0) 4 rfl Tryz.underlying155 info_u32 rfl (by decide) (by omega) u3 (L1) (4043309056 + (i : Int)) [.int .u32 (4043309056 + (i : Int))] (fun _ => True) (fun _ => False) rfl rfl rfl (fun _ hk => hk.elim) (fun _ _ => trivial) HO3.out HB3.out HB3.out.size (by omega) ?_
               intro v4 w4 ho hb hg hat
               have HB4 := Zz.mk hb
               have HO4 := Zz.mk ho
               clear ho hb hg hat)
            | fail)
           go_roundw
           case rel =>
            repeat apply Exists.intro
            refine ⟨?_, rfl⟩
            exact ⟨i + 1, by omega, by go_num, ⟨by rw [HE.out]; first | exact HO4.out | (have := HO4.out; simpa using this)⟩, HB4⟩
           case measure => simp [intOf]; omega
         | false =>
           rw [hkn1] at K1
           rw [hkn2] at K2
           have hk1 := Lib.hid K1
           have hk2 := Lib.hid K2
           have HE : Zz (lowL k 25 ++ bothL k (i + 1) = lowL k 25 ++ bothL k i) := ⟨by rw [bothL_succ, hkn1, hkn2]; simp⟩
           clear K1 K2 hkn1 hkn2
           have hlen : (lowL k 25 ++ bothL k i).length <= 200 := by have := lowL_len k 25; have := bothL_len k i; rw [List.length_append]; omega
           generalize lowL k 25 ++ bothL k i = L1 at *
           go_wp2_with (first
            | (go_at_call 116
               first
               | (with_reducible refine (hk2.out _).mono ?_
                  rintro e vB ⟨rfl, hb⟩
                  have HO3 := Zz.mk (Kd.R_below HO1.out hb)
                  have HB3 := Zz.mk (HB1.out.trans (hb.mono HB1.out.size))
                  clear hb)
               | (with_reducible refine (hk1.out _).mono ?_
                  rintro e vA ⟨rfl, hb⟩
                  have HO1 := Zz.mk (Kd.R_below hO.out hb)
                  have HB1 := Zz.mk (hB.out.trans (hb.mono hB.out.size))
                  clear hb))
            | fail)
           go_roundw
           case rel =>
            repeat apply Exists.intro
            refine ⟨?_, rfl⟩
            exact ⟨i + 1, by omega, by go_num, ⟨by rw [HE.out]; first | exact HO3.out | (have := HO3.out; simpa using this)⟩, HB3⟩
           case measure => simp [intOf]; omega
     · obtain rfl : i = 64 := by omega
       go_wp2
       go_ret
       exact ⟨_, rfl, hO.out, hB.out⟩
end Go.Proofs.YtpdinahdcedmkaaGreatDoor.ExtP
namespace Go.Proofs.YtpdinahdcedmkaaGreatDoor.ExtP
open Go.Proofs.YtpdinahdcedmkaaGreatDoor.Ext
open Go.RowKit YtpdinahdcedmkaaGreatDoorW.PrintWords YtpdinahdcedmkaaGreatDoorW.PrintLast YtpdinahdcedmkaaGreatDoorW.PrintMore
theorem below_drewN' {b : Nat} {w w' : World} (h : Below b w w') (n : Nat) : Below b w (w'.drewN n) := pw_below_drewN h n
theorem take_snoc (l : List Int) (i : Nat) (hi : i < l.length) : l.take (i + 1) = l.take i ++ [l.getD i 0] := by
 rw [List.take_add_one, List.getD_eq_getElem?_getD, List.getElem?_eq_getElem hi]
 rfl
end Go.Proofs.YtpdinahdcedmkaaGreatDoor.ExtP
namespace Go.Proofs.YtpdinahdcedmkaaGreatDoor.ExtP
open Go.Proofs.YtpdinahdcedmkaaGreatDoor.Ext
open Go.RowKit Go.Shelf YtpdinahdcedmkaaGreatDoorW.PrintWords YtpdinahdcedmkaaGreatDoorW.PrintLast YtpdinahdcedmkaaGreatDoorW.PrintMore Go.Proofs.YtpdinahdcedmkaaGreatDoor.Spec
def rns (s : ByteArray) : Nat -> Nat -> List Nat
 | 0, _ => []
 | f + 1, pos => if pos < s.size then (Utf8.decode s pos).1 :: rns s f (pos + (Utf8.decode s pos).2) else []
theorem rns_end (s : ByteArray) (f pos : Nat) (h : ¬ pos < s.size) : rns s f pos = [] := by
 cases f with
 | zero => rfl
 | succ f => simp [rns, h]
theorem rns_step (s : ByteArray) (f pos : Nat) (h : pos < s.size) (hf : s.size <= pos + f) : ∃ f', s.size <= (pos + (Utf8.decode s pos).2) + f' /\ rns s f pos = (Utf8.decode s pos).1 :: rns s f' (pos + (Utf8.decode s pos).2) := by
 cases f with
 | zero => omega
 | succ f =>
   have := Lib.decode_width_pos s pos h
   exact ⟨f, by omega, by simp [rns, h]⟩
theorem iter_new (w : World) (s : ByteArray) : (w.iter s 0).heap[w.heap.size]? = some (.stringIter s 0) := World.iter_heap w s 0
theorem iter_less {w : World} {k : Nat} {s : ByteArray} {pos d : Nat} (hd : 1 <= d) (hit : w.heap[k]? = some (.stringIter s pos)) (hp : pos < s.size) : s.size - (w.iterAt k s (pos + d)).iterPos k < s.size - w.iterPos k := by
 have h1 := Lib.iterAt_heap w k s pos (pos + d) hit
 unfold World.iterPos
 rw [h1, hit]
 simp only
 omega
theorem below_iter (w : World) (s : ByteArray) : Below w.heap.size w (w.iter s 0) := (Below.refl _ _).alloc (Nat.le_refl _) _
theorem iterPos_at {w : World} {k pos : Nat} {s : ByteArray} (h : w.heap[k]? = some (.stringIter s pos)) : w.iterPos k = pos := by unfold World.iterPos; rw [h]
def okR (r : Nat) : Bool := decide (r = 95 \/ r = 45 \/ (48 <= r /\ r <= 57) \/ (65 <= r /\ r <= 90))
def plainS (s : ByteArray) : Bool := (rns s s.size 0).all okR
theorem c_plain (s : ByteArray) (w : World) (hs : s.size <= 140737488351232) :
 Calls Tryz.prog 150 #[.string s] w fun e w' => e = .returned (.bool (plainS s)) /\ Below w.heap.size w w' := by
 obtain ⟨U, hU⟩ : ∃ U, plainS s = U := ⟨_, rfl⟩
 have HU := Lib.hid hU
 rw [hU]
 clear hU
 go_enter Tryz.func150, Tryz.ntmps150
 go_wp2
 go_loopw [] (fun wr => ∃ (pos fuel : Nat), wr.heap[w.heap.size]? = some (.stringIter s pos) /\ Zz (s.size <= pos + fuel /\ (rns s fuel pos).all okR = plainS s) /\ Zz (Below w.heap.size w wr)) (fun wr => s.size - wr.iterPos w.heap.size)
 case atStart => exact ⟨0, s.size, iter_new w s, ⟨by omega, rfl⟩, ⟨below_iter w s⟩⟩
 case round =>
  obtain ⟨pos, fuel, hit, hR, hB⟩ := hrel
  by_cases hp : pos < s.size
  · have hw1 := Lib.decode_width_pos s pos hp
    obtain ⟨f2, hf2, he2⟩ := rns_step s fuel pos hp hR.out.1
    have hnx := fun ty => Lib.run_next_any_at (P := Tryz.prog) wr w.heap.size s pos ty hit hp
    have HI0 := Lib.iterAt_heap wr w.heap.size s pos (pos + (Utf8.decode s pos).2) hit
    have HB0 := Lib.below_iterAt hB.out (Nat.le_refl _) s (pos + (Utf8.decode s pos).2)
    have HM0 := iter_less hw1 hit hp
    generalize hd : Utf8.decode s pos = d at *
    obtain ⟨r, wd⟩ := d
    simp only at *
    have hR1 := hR.out.2
    rw [he2, List.all_cons] at hR1
    have HBI := Zz.mk HB0
    have HII := Zz.mk HI0
    have HMM : Zz (s.size - (pos + wd) < s.size - wr.iterPos w.heap.size) := ⟨by rwa [iterPos_at HI0] at HM0⟩
    have hF := Zz.mk hf2
    clear hd he2 hf2 hR HI0 HB0 HM0 hB
    have good : okR r = true -> Zz ((rns s f2 (pos + wd)).all okR = plainS s) := fun h => ⟨by rw [<- hR1, h]; rfl⟩
    have bad : okR r = false -> U = false := fun h => by rw [<- HU.out, <- hR1, h]; rfl
    clear hR1
    by_cases h1 : r = 95
    · subst h1
      have HG := good (by decide)
      clear good bad
      go_wp2
      go_roundw
      case rel => exact ⟨pos + wd, f2, HII.out, ⟨hF.out, HG.out⟩, HBI⟩
      case measure => rw [iterPos_at HII.out]; exact HMM.out
    by_cases h2 : r = 45
    · subst h2
      have HG := good (by decide)
      clear good bad
      go_wp2
      go_roundw
      case rel => exact ⟨pos + wd, f2, HII.out, ⟨hF.out, HG.out⟩, HBI⟩
      case measure => rw [iterPos_at HII.out]; exact HMM.out
    have t1 : ((r : Int) == 95) = false := beq_eq_false_iff_ne.2 (by omega)
    have t1' : ((r : Int) != 95) = true := bne_iff_ne.2 (by omega)
    have t2 : ((r : Int) == 45) = false := beq_eq_false_iff_ne.2 (by omega)
    have t2' : ((r : Int) != 45) = true := bne_iff_ne.2 (by omega)
    have hc : r < 48 \/ (48 <= r /\ r <= 57) \/ (57 < r /\ r < 65) \/ (65 <= r /\ r <= 90) \/ 90 < r := by omega
    rcases hc with hc | hc | hc | hc | hc
    · obtain rfl := bad (by unfold okR; apply decide_eq_false; omega)
      have q1 : (r : Int) < 48 := by omega
      have q2 : (r : Int) < 65 := by omega
      clear good bad h1 h2 hc
      go_wp2
      go_ret
      exact ⟨rfl, HBI.out⟩
    · have HG := good (by unfold okR; apply decide_eq_true; omega)
      have q1 : ¬ (r : Int) < 48 := by omega
      have q2 : ¬ (57 : Int) < (r : Int) := by omega
      clear good bad h1 h2 hc
      go_wp2
      go_roundw
      case rel => exact ⟨pos + wd, f2, HII.out, ⟨hF.out, HG.out⟩, HBI⟩
      case measure => rw [iterPos_at HII.out]; exact HMM.out
    · obtain rfl := bad (by unfold okR; apply decide_eq_false; omega)
      have q1 : ¬ (r : Int) < 48 := by omega
      have q2 : (57 : Int) < (r : Int) := by omega
      have q3 : (r : Int) < 65 := by omega
      clear good bad h1 h2 hc
      go_wp2
      go_ret
      exact ⟨rfl, HBI.out⟩
    · have HG := good (by unfold okR; apply decide_eq_true; omega)
      have q1 : ¬ (r : Int) < 48 := by omega
      have q2 : (57 : Int) < (r : Int) := by omega
      have q3 : ¬ (r : Int) < 65 := by omega
      have q4 : ¬ (90 : Int) < (r : Int) := by omega
      clear good bad h1 h2 hc
      go_wp2
      go_roundw
      case rel => exact ⟨pos + wd, f2, HII.out, ⟨hF.out, HG.out⟩, HBI⟩
      case measure => rw [iterPos_at HII.out]; exact HMM.out
    · obtain rfl := bad (by unfold okR; apply decide_eq_false; omega)
      have q1 : ¬ (r : Int) < 48 := by omega
      have q2 : (57 : Int) < (r : Int) := by omega
      have q3 : ¬ (r : Int) < 65 := by omega
      have q4 : (90 : Int) < (r : Int) := by omega
      clear good bad h1 h2 hc
      go_wp2
      go_ret
      exact ⟨rfl, HBI.out⟩
  · have hnx := fun ty => Lib.run_next_end_at (P := Tryz.prog) wr w.heap.size s pos ty hit hp
    have hU : U = true := by
     have := hR.out.2
     rw [rns_end s fuel pos hp] at this
     rw [<- HU.out, <- this]
     rfl
    subst hU
    clear hR
    go_wp2
    go_ret
    exact ⟨rfl, hB.out⟩
theorem str_ne {a b : ByteArray} (h : a ≠ b) : (a.toList == b.toList) = false := by
 rw [beq_eq_false_iff_ne, ByteArray.toList_eq, ByteArray.toList_eq]
 exact fun e => h (Go.WideShapes.bytes_inj e)
def prefS (s p : ByteArray) : Bool := decide (p.size <= s.size /\ s.extract 0 p.size = p)
theorem sl_to (s : ByteArray) (j : Int) (h0 : 0 <= j) (h2 : j <= s.size) : ∀ W, (Instr.slice 9 (.string s) none (some (.int .i64 j)) none).run Tryz.prog W = .ok (.string (s.extract 0 j.toNat)) W := by
 intro W
 simp [go_sem, Tryz.underlying9, h0, h2]
theorem c_HasPrefix (s p : ByteArray) (w : World) (hs : s.size <= 140737488351232) (hp : p.size <= 140737488351232) :
 Calls Tryz.prog 151 #[.string s, .string p] w fun e w' => e = .returned (.bool (prefS s p)) /\ w' = w := by
 have key : ∀ W, Calls Tryz.prog 148 #[.string s, .string p] W fun e w' => e = .returned (.bool (prefS s p)) /\ w' = W := by
  intro W
  by_cases h1 : p.size <= s.size
  · have hsl := sl_to s (p.size : Int) (by omega) (by omega)
    rw [Int.toNat_natCast] at hsl
    have q1 : (p.size : Int) <= (s.size : Int) := by omega
    by_cases h2 : s.extract 0 p.size = p
    · rw [show prefS s p = true from decide_eq_true ⟨h1, h2⟩]
      rw [h2] at hsl
      clear h1 h2
      go_enter Tryz.func148, Tryz.ntmps148
      go_wp2
      go_ret
      exact ⟨rfl, rfl⟩
    · rw [show prefS s p = false from decide_eq_false (fun h => h2 h.2)]
      have te := str_ne h2
      generalize s.extract 0 p.size = x at *
      clear h1 h2
      go_enter Tryz.func148, Tryz.ntmps148
      go_wp2
      go_ret
      exact ⟨rfl, rfl⟩
  · rw [show prefS s p = false from decide_eq_false (fun h => h1 h.1)]
    have q1 : ¬ (p.size : Int) <= (s.size : Int) := by omega
    clear h1
    go_enter Tryz.func148, Tryz.ntmps148
    go_wp2
    go_ret
    exact ⟨rfl, rfl⟩
 have kk := Lib.hid key
 clear key
 go_enter Tryz.func151, Tryz.ntmps151
 go_wp2_with (first | (go_at_call 148; refine (kk.out _).mono ?_; rintro e v ⟨rfl, rfl⟩) | fail)
 go_ret
 exact ⟨rfl, rfl⟩
end Go.Proofs.YtpdinahdcedmkaaGreatDoor.ExtP
