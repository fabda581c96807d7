/- liverylaw01.OctetNumbers: true. Its walk's arms are printed by gen_lawnum.py. -/
import Derived.Test.YtjjppeodkmfjgaaDoorLittle
import Derived.Test.YtjjppeodkmfjgaaDoorLawHexes
namespace Go.Proofs.YtjjppeodkmfjgaaDoor.Ext
set_option linter.unusedVariables false
open Go.RowKit Go.Proofs.YtjjppeodkmfjgaaDoorW.PrintWords Go.Proofs.YtjjppeodkmfjgaaDoorW.PrintLast Go.Proofs.YtjjppeodkmfjgaaDoorW.PrintMore

theorem bigK_mod (n s : Nat) : bigK (n % 2 ^ (8 * s)) s s = bigK n s s := by
  apply List.ext_getElem
  · rw [bigK_len, bigK_len]
  · intro j h1 h2
    rw [bigK_len] at h1
    simp only [bigK, List.getElem_map, List.getElem_range]
    rw [if_pos (by omega), if_pos (by omega)]
    unfold bigE
    congr 1
    generalize hk : s - 1 - j = k
    have e : (2 : Nat) ^ (8 * s) = 2 ^ (8 * k) * 2 ^ (8 * (s - k)) := by rw [← Nat.pow_add]; congr 1; omega
    rw [e, Nat.mod_mul_right_div_self]
    exact Nat.mod_mod_of_dvd _ ⟨2 ^ (8 * (s - k - 1)), by rw [show 8 * (s - k) = 8 + 8 * (s - k - 1) by omega, Nat.pow_add]⟩
theorem big_of (x : Int) (n s : Nat) (hs : s ≤ 8) (hx : x = ((n % 2 ^ (8 * s) : Nat) : Int)) (hb : n % 2 ^ (8 * s) < 18446744073709551616) : octet_big.f x s = some (bigK n s s) := by
  unfold octet_big.f
  rw [if_pos (by omega), hx, Int.toNat_natCast, Int.toNat_natCast, bigK_mod]
theorem putS_len (n : Nat) (size : Int) : (putS n size).1.length ≤ 8 := by
  unfold putS
  by_cases h : fitS n size = 0
  · rw [if_pos h, bigK_len]
    unfold fitS at h
    by_cases hc : size < 1 ∨ 8 < size
    · rw [if_pos hc] at h; omega
    · omega
  · rw [if_neg h]; simp
theorem takeS_rev (l : List Int) : (takeS l.reverse).2 = (takeS l).2 := by
  unfold takeS
  rw [List.length_reverse]
  split <;> rfl
set_option maxHeartbeats 4000000 in
set_option maxRecDepth 100000 in
theorem law_Numbers (n : Nat) (size : Int) (A : Option Addr) (c : Nat) (l : List Int) (w : World) (hT : Lib.Utf8Tabs 0 1 w) (hn : n < 18446744073709551616) (hC : Kd.C (Kd.int .u8) w A l.length l) (hc : l.length ≤ c) (ha : Bytes l) (hl : l.length ≤ 1048576) :
    Calls Tryd.prog 7 #[.int .u64 n, .int .i64 size, .slice A l.length c] w fun e w' => e = .returned (.bool true) ∧ Below w.heap.size w w' := by
  have CL := Lib.hid live_walk
  have HT := Lib.hid hT
  have HC := Aside0.mk hC
  have hrb : Bytes l.reverse := fun x hx => ha x (List.mem_reverse.1 hx)
  have q1 := fun W => P.octet_Big.calls 1 n size (putS n size).1 (putS n size).2 W (big_f n size hn)
  have q2 := fun W => little_walk n size W hn
  have q3 := fun W => P.liveryref01_Put.calls 10 n size (putS n size).1 (putS n size).2 W (put_f n size hn)
  have q4 := fun W h => P.octet_BigOf.calls 10 A c l (takeS l).1 (takeS l).2 W h hc (bigof_f l ha)
  have q5 := fun W h => P.octet_LittleOf.calls 10 A c l (takeS l.reverse).1 (takeS l.reverse).2 W h hc (littleof_f l ha)
  have q6 := fun W h => P.liveryref01_Take.calls 9 A c l (takeS l).1 (takeS l).2 W h hc (take_f l ha)
  have q7 := fun W h => P.liveryref01_Turned.calls (l.length + 1) A c l l.reverse W h hc (turned_f l hl)
  have q8 := fun A2 c2 (hc2 : l.reverse.length ≤ c2) W h => P.liveryref01_Take.calls 9 A2 c2 l.reverse (takeS l.reverse).1 (takeS l.reverse).2 W h hc2 (take_f l.reverse hrb)
  have hz8 : (putS n size).1.length ≤ 8 := putS_len n size
  have q9 := fun A2 c2 (hc2 : (putS n size).1.length ≤ c2) W h => P.liveryref01_Turned.calls ((putS n size).1.length + 1) A2 c2 (putS n size).1 (putS n size).1.reverse W h hc2 (turned_f (putS n size).1 (by omega))
  rw [takeS_rev] at q5 q8
  have j1 := Lib.hid (fun W => P.octet_U16.calls (IntKind.u16.wrap (n : Int)) (bigK n 2 2) W (by unfold P.octet_U16.f; rw [show IntKind.u16.wrap (n : Int) = (n : Int) % 65536 by simp [IntKind.wrap, IntKind.bits, IntKind.signed], u64w _ (by omega), show octet_big.f ((n : Int) % 65536) 2 = some (bigK n 2 2) from big_of _ n 2 (by omega) (by omega) (by omega), Option.bind_some]))
  have j2 := Lib.hid (fun W => P.octet_U32.calls ((n : Int) % 4294967296) (bigK n 4 4) W (by unfold P.octet_U32.f; rw [u64w _ (by omega), show octet_big.f ((n : Int) % 4294967296) 4 = some (bigK n 4 4) from big_of _ n 4 (by omega) (by omega) (by omega), Option.bind_some]))
  have j3 := Lib.hid (fun W => P.octet_U64.calls (n : Int) (bigK n 8 8) W (by unfold P.octet_U64.f; rw [show octet_big.f ((n : Int)) 8 = some (bigK n 8 8) from big_of _ n 8 (by omega) (by omega) (by omega), Option.bind_some]))
  have g1 := Lib.hid (fun W => P.liveryref01_Big.calls 9 n 2 (bigK n 2 2) W (rbig_more n 2 hn (by omega)))
  have g2 := Lib.hid (fun W => P.liveryref01_Big.calls 9 n 4 (bigK n 4 4) W (rbig_more n 4 hn (by omega)))
  have g3 := Lib.hid (fun W => P.liveryref01_Big.calls 9 n 8 (bigK n 8 8) W (rbig_more n 8 hn (by omega)))
  generalize bigK n 2 2 = K2 at *
  generalize bigK n 4 4 = K4 at *
  generalize bigK n 8 8 = K8 at *
  generalize (takeS l).1 = r1 at *
  generalize (takeS l).2 = r2 at *
  generalize (takeS l.reverse).1 = s1 at *
  generalize (putS n size).1 = z at *
  generalize (putS n size).2 = zc at *
  generalize l.reverse = R at *
  generalize z.reverse = Y at *
  have k1 := Lib.hid q1
  have k2 := Lib.hid q2
  have k3 := Lib.hid q3
  have k4 := Lib.hid q4
  have k5 := Lib.hid q5
  have k6 := Lib.hid q6
  have k7 := Lib.hid q7
  have k8 := Lib.hid q8
  have k9 := Lib.hid q9
  have HZ := Aside0.mk hz8
  clear q1 q2 q3 q4 q5 q6 q7 q8 q9 ha hrb hT hC hz8
  go_enter Tryd.func7, Tryd.ntmps7
  go_wp2_with (first
    | (go_at_call 28
       with_reducible refine (k1.out _).mono ?_
       rintro e v1 ⟨u, rfl, hr, hb⟩
       obtain ⟨Ax, cx, rfl, hl, hC⟩ := Kd.R_reads hr
       have HCx_1 := Aside0.mk hC
       have HLx := Aside0.mk hl
       have HB1 := Aside0.mk (Below.trans (Below.refl w.heap.size w) (hb.mono (Below.size (Below.refl w.heap.size w))))
       clear hb hr hl hC)
    | (go_at_call 29
       with_reducible refine (k2.out _).mono ?_
       rintro e v2 ⟨u, rfl, hr, hb⟩
       obtain ⟨Ay, cy, rfl, hl, hC⟩ := Kd.R_reads hr
       have HCy_2 := Aside0.mk hC
       have HLy := Aside0.mk hl
       have HCx_2 := Aside0.mk (Kd.C_below HCx_1.out hb)
       have HB2 := Aside0.mk (Below.trans HB1.out (hb.mono (Below.size HB1.out)))
       clear hb hr hl hC
       clear HCx_1)
    | (go_at_call 30
       with_reducible refine (k3.out _).mono ?_
       rintro e v3 ⟨u, rfl, hr, hb⟩
       obtain ⟨Az, cz, rfl, hl, hC⟩ := Kd.R_reads hr
       have HCz_3 := Aside0.mk hC
       have HLz := Aside0.mk hl
       have HCx_3 := Aside0.mk (Kd.C_below HCx_2.out hb)
       have HCy_3 := Aside0.mk (Kd.C_below HCy_2.out hb)
       have HB3 := Aside0.mk (Below.trans HB2.out (hb.mono (Below.size HB2.out)))
       clear hb hr hl hC
       clear HCx_2 HCy_2)
    | (go_at_call 31
       with_reducible refine (k4.out _ (Kd.C_below HC.out HB3.out)).mono ?_
       rintro e v4 ⟨rfl, hd⟩
       have hb := hd.below
       have HCx_4 := Aside0.mk (Kd.C_below HCx_3.out hb)
       have HCy_4 := Aside0.mk (Kd.C_below HCy_3.out hb)
       have HCz_4 := Aside0.mk (Kd.C_below HCz_3.out hb)
       have HB4 := Aside0.mk (Below.trans HB3.out (hb.mono (Below.size HB3.out)))
       clear hb hd
       clear HCx_3 HCy_3 HCz_3)
    | (go_at_call 32
       with_reducible refine (k5.out _ (Kd.C_below HC.out HB4.out)).mono ?_
       rintro e v5 ⟨rfl, hd⟩
       have hb := hd.below
       have HCx_5 := Aside0.mk (Kd.C_below HCx_4.out hb)
       have HCy_5 := Aside0.mk (Kd.C_below HCy_4.out hb)
       have HCz_5 := Aside0.mk (Kd.C_below HCz_4.out hb)
       have HB5 := Aside0.mk (Below.trans HB4.out (hb.mono (Below.size HB4.out)))
       clear hb hd
       clear HCx_4 HCy_4 HCz_4)
    | (go_at_call 33
       first
       | (with_reducible refine (k8.out At ct HLt.out _ HCt_7.out).mono ?_
          rintro e v8 ⟨rfl, hd⟩
          have hb := hd.below
          have HCx_8 := Aside0.mk (Kd.C_below HCx_7.out hb)
          have HCy_8 := Aside0.mk (Kd.C_below HCy_7.out hb)
          have HCz_8 := Aside0.mk (Kd.C_below HCz_7.out hb)
          have HCt_8 := Aside0.mk (Kd.C_below HCt_7.out hb)
          have HB8 := Aside0.mk (Below.trans HB7.out (hb.mono (Below.size HB7.out)))
          clear hb hd
          clear HCx_7 HCy_7 HCz_7 HCt_7)
       | (with_reducible refine (k6.out _ (Kd.C_below HC.out HB5.out)).mono ?_
          rintro e v6 ⟨rfl, hd⟩
          have hb := hd.below
          have HCx_6 := Aside0.mk (Kd.C_below HCx_5.out hb)
          have HCy_6 := Aside0.mk (Kd.C_below HCy_5.out hb)
          have HCz_6 := Aside0.mk (Kd.C_below HCz_5.out hb)
          have HB6 := Aside0.mk (Below.trans HB5.out (hb.mono (Below.size HB5.out)))
          clear hb hd
          clear HCx_5 HCy_5 HCz_5))
    | (go_at_call 34
       first
       | (with_reducible refine (k9.out Az cz HLz.out _ HCz_10.out).mono ?_
          rintro e v11 ⟨u, rfl, hr, hb⟩
          obtain ⟨Aq, cq, rfl, hl, hC⟩ := Kd.R_reads hr
          have HCq_11 := Aside0.mk hC
          have HLq := Aside0.mk hl
          have HCy_11 := Aside0.mk (Kd.C_below HCy_10.out hb)
          have HCz_11 := Aside0.mk (Kd.C_below HCz_10.out hb)
          have HB11 := Aside0.mk (Below.trans HB10.out (hb.mono (Below.size HB10.out)))
          clear hb hr hl hC
          clear HCy_10 HCz_10)
       | (with_reducible refine (k7.out _ (Kd.C_below HC.out HB6.out)).mono ?_
          rintro e v7 ⟨u, rfl, hr, hb⟩
          obtain ⟨At, ct, rfl, hl, hC⟩ := Kd.R_reads hr
          have HCt_7 := Aside0.mk hC
          have HLt := Aside0.mk hl
          have HCx_7 := Aside0.mk (Kd.C_below HCx_6.out hb)
          have HCy_7 := Aside0.mk (Kd.C_below HCy_6.out hb)
          have HCz_7 := Aside0.mk (Kd.C_below HCz_6.out hb)
          have HB7 := Aside0.mk (Below.trans HB6.out (hb.mono (Below.size HB6.out)))
          clear hb hr hl hC
          clear HCx_6 HCy_6 HCz_6))
    | (go_at_call 13
       with_reducible refine (CL.out _ (Utf8Tabs_below HT.out HB8.out)).mono ?_
       rintro e v9 ⟨rfl, hb⟩
       have HCx_9 := Aside0.mk (Kd.C_below HCx_8.out hb)
       have HCy_9 := Aside0.mk (Kd.C_below HCy_8.out hb)
       have HCz_9 := Aside0.mk (Kd.C_below HCz_8.out hb)
       have HB9 := Aside0.mk (Below.trans HB8.out (hb.mono (Below.size HB8.out)))
       clear hb
       clear HCx_8 HCy_8 HCz_8)
    | (go_at_call 16
       first
       | (with_reducible refine (P.liveryref01_Equal.calls Ac1 cc1 K8 Ac2 cc2 K8 true _ HCc1_20.out HLc1.out HCc2_20.out HLc2.out (eq_same _)).mono ?_
          rintro e v21 ⟨rfl, hd⟩
          have hb := hd.below
          have HCc1_21 := Aside0.mk (Kd.C_below HCc1_20.out hb)
          have HCc2_21 := Aside0.mk (Kd.C_below HCc2_20.out hb)
          have HB21 := Aside0.mk (Below.trans HB20.out (hb.mono (Below.size HB20.out)))
          clear hb hd
          clear HCc1_20 HCc2_20)
       | (with_reducible refine (P.liveryref01_Equal.calls Ab1 cb1 K4 Ab2 cb2 K4 true _ HCb1_17.out HLb1.out HCb2_17.out HLb2.out (eq_same _)).mono ?_
          rintro e v18 ⟨rfl, hd⟩
          have hb := hd.below
          have HCb1_18 := Aside0.mk (Kd.C_below HCb1_17.out hb)
          have HCb2_18 := Aside0.mk (Kd.C_below HCb2_17.out hb)
          have HB18 := Aside0.mk (Below.trans HB17.out (hb.mono (Below.size HB17.out)))
          clear hb hd
          clear HCb1_17 HCb2_17)
       | (with_reducible refine (P.liveryref01_Equal.calls Aa1 ca1 K2 Aa2 ca2 K2 true _ HCa1_14.out HLa1.out HCa2_14.out HLa2.out (eq_same _)).mono ?_
          rintro e v15 ⟨rfl, hd⟩
          have hb := hd.below
          have HCa1_15 := Aside0.mk (Kd.C_below HCa1_14.out hb)
          have HCa2_15 := Aside0.mk (Kd.C_below HCa2_14.out hb)
          have HB15 := Aside0.mk (Below.trans HB14.out (hb.mono (Below.size HB14.out)))
          clear hb hd
          clear HCa1_14 HCa2_14)
       | (with_reducible refine (P.liveryref01_Equal.calls Ay cy Y Aq cq Y true _ HCy_11.out HLy.out HCq_11.out HLq.out (eq_same _)).mono ?_
          rintro e v12 ⟨rfl, hd⟩
          have hb := hd.below
          have HCy_12 := Aside0.mk (Kd.C_below HCy_11.out hb)
          have HCq_12 := Aside0.mk (Kd.C_below HCq_11.out hb)
          have HB12 := Aside0.mk (Below.trans HB11.out (hb.mono (Below.size HB11.out)))
          clear hb hd
          clear HCy_11 HCq_11)
       | (with_reducible refine (P.liveryref01_Equal.calls Ax cx z Az cz z true _ HCx_9.out HLx.out HCz_9.out HLz.out (eq_same z)).mono ?_
          rintro e v10 ⟨rfl, hd⟩
          have hb := hd.below
          have HCx_10 := Aside0.mk (Kd.C_below HCx_9.out hb)
          have HCy_10 := Aside0.mk (Kd.C_below HCy_9.out hb)
          have HCz_10 := Aside0.mk (Kd.C_below HCz_9.out hb)
          have HB10 := Aside0.mk (Below.trans HB9.out (hb.mono (Below.size HB9.out)))
          clear hb hd
          clear HCx_9 HCy_9 HCz_9))
    | (go_at_call 35
       with_reducible refine (j1.out _).mono ?_
       rintro e v13 ⟨u, rfl, hr, hb⟩
       obtain ⟨Aa1, ca1, rfl, hl, hC⟩ := Kd.R_reads hr
       have HCa1_13 := Aside0.mk hC
       have HLa1 := Aside0.mk hl
       have HB13 := Aside0.mk (Below.trans HB12.out (hb.mono (Below.size HB12.out)))
       clear hb hr hl hC)
    | (go_at_call 36
       first
       | (with_reducible refine (g3.out _).mono ?_
          rintro e v20 ⟨u, rfl, hr, hb⟩
          obtain ⟨Ac2, cc2, rfl, hl, hC⟩ := Kd.R_reads hr
          have HCc2_20 := Aside0.mk hC
          have HLc2 := Aside0.mk hl
          have HCc1_20 := Aside0.mk (Kd.C_below HCc1_19.out hb)
          have HB20 := Aside0.mk (Below.trans HB19.out (hb.mono (Below.size HB19.out)))
          clear hb hr hl hC
          clear HCc1_19)
       | (with_reducible refine (g2.out _).mono ?_
          rintro e v17 ⟨u, rfl, hr, hb⟩
          obtain ⟨Ab2, cb2, rfl, hl, hC⟩ := Kd.R_reads hr
          have HCb2_17 := Aside0.mk hC
          have HLb2 := Aside0.mk hl
          have HCb1_17 := Aside0.mk (Kd.C_below HCb1_16.out hb)
          have HB17 := Aside0.mk (Below.trans HB16.out (hb.mono (Below.size HB16.out)))
          clear hb hr hl hC
          clear HCb1_16)
       | (with_reducible refine (g1.out _).mono ?_
          rintro e v14 ⟨u, rfl, hr, hb⟩
          obtain ⟨Aa2, ca2, rfl, hl, hC⟩ := Kd.R_reads hr
          have HCa2_14 := Aside0.mk hC
          have HLa2 := Aside0.mk hl
          have HCa1_14 := Aside0.mk (Kd.C_below HCa1_13.out hb)
          have HB14 := Aside0.mk (Below.trans HB13.out (hb.mono (Below.size HB13.out)))
          clear hb hr hl hC
          clear HCa1_13))
    | (go_at_call 37
       with_reducible refine (j2.out _).mono ?_
       rintro e v16 ⟨u, rfl, hr, hb⟩
       obtain ⟨Ab1, cb1, rfl, hl, hC⟩ := Kd.R_reads hr
       have HCb1_16 := Aside0.mk hC
       have HLb1 := Aside0.mk hl
       have HB16 := Aside0.mk (Below.trans HB15.out (hb.mono (Below.size HB15.out)))
       clear hb hr hl hC)
    | (go_at_call 38
       with_reducible refine (j3.out _).mono ?_
       rintro e v19 ⟨u, rfl, hr, hb⟩
       obtain ⟨Ac1, cc1, rfl, hl, hC⟩ := Kd.R_reads hr
       have HCc1_19 := Aside0.mk hC
       have HLc1 := Aside0.mk hl
       have HB19 := Aside0.mk (Below.trans HB18.out (hb.mono (Below.size HB18.out)))
       clear hb hr hl hC)
    | fail)
  go_ret
  exact ⟨rfl, HB21.out⟩
end Go.Proofs.YtjjppeodkmfjgaaDoor.Ext
