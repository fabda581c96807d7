/- liverylaw01.OctetBits: true. -/
import Derived.Test.YtjjppeodkmfjgaaDoorBits
import Derived.Test.YtjjppeodkmfjgaaDoorLawHexes
namespace Go.Proofs.YtjjppeodkmfjgaaDoor.Ext
set_option linter.unusedVariables false
open Go.RowKit Go.Proofs.YtjjppeodkmfjgaaDoorW.PrintWords Go.Proofs.YtjjppeodkmfjgaaDoorW.PrintLast Go.Proofs.YtjjppeodkmfjgaaDoorW.PrintMore

set_option maxHeartbeats 2000000 in
set_option maxRecDepth 100000 in
theorem law_Bits (A : Option Addr) (c : Nat) (l : List Int) (A' : Option Addr) (c' : Nat) (l' : List Bool) (w : World) (hT : Lib.Utf8Tabs 0 1 w) (hC : Kd.C (Kd.int .u8) w A l.length l) (hc : l.length ≤ c) (hb : Bytes l) (hl : l.length ≤ 1048576) (hC' : Kd.C Kd.bool w A' l'.length l') (hc' : l'.length ≤ c') (hl' : l'.length ≤ 1048576) :
    Calls Tryd.prog 4 #[.slice A l.length c, .slice A' l'.length c'] w fun e w' => e = .returned (.bool true) ∧ Below w.heap.size w w' := by
  have CL := Lib.hid live_walk
  have c1 := Lib.hid (fun W h => P.octet_Bits.calls (10 * l.length + 1) A c l _ W h hc (bits_f l hb hl))
  have c2 := Lib.hid (fun W h => P.liveryref01_Bits.calls (10 * l.length + 1) A c l _ W h hc (rbits_f l hb hl))
  have c3 := Lib.hid (fun W h => P.octet_FromBits.calls (l'.length + 1) A' c' l' _ W h hc' (from_f l' (by omega)))
  have c4 := Lib.hid (fun W h => P.liveryref01_FromBits.calls (20 * ((l'.length + 7) / 8) + 1) A' c' l' _ W h hc' (rfrom_f l' hl'))
  have hlen := bitsS_len l
  generalize bitsS l = X at *
  generalize fromS l' = Y at *
  have HT := Lib.hid hT
  have HC := Aside0.mk hC
  have HC' := Aside0.mk hC'
  clear hT hC hC' hb
  go_enter Tryd.func4, Tryd.ntmps4
  go_wp2_with (first
    | (go_at_call 17
       refine (c1.out _ HC.out).mono ?_
       rintro e v1 ⟨u1, rfl, hr1, hb1⟩
       obtain ⟨A1, c1', rfl, hl1, hC1⟩ := Kd.R_reads hr1
       have HC1 := Aside0.mk hC1
       have HB1 := Aside0.mk hb1
       clear hr1 hC1 hl1 hb1)
    | (go_at_call 18
       refine (c2.out _ (Kd.C_below HC.out HB1.out)).mono ?_
       rintro e v2 ⟨u2, rfl, hr2, hb2⟩
       obtain ⟨A2, c2', rfl, hl2, hC2⟩ := Kd.R_reads hr2
       have HC2 := Aside0.mk hC2
       have HD2 := Aside0.mk (Kd.C_below HC1.out hb2)
       have HB2 := Aside0.mk (HB1.out.trans (hb2.mono HB1.out.size))
       clear hr2 hC2 hl2 hb2)
    | (go_at_call 13
       refine (CL.out _ (Utf8Tabs_below HT.out HB2.out)).mono ?_
       rintro e v3 ⟨rfl, hb3⟩
       have HC3 := Aside0.mk (Kd.C_below HC2.out hb3)
       have HD3 := Aside0.mk (Kd.C_below HD2.out hb3)
       have HB3 := Aside0.mk (HB2.out.trans (hb3.mono HB2.out.size))
       clear hb3)
    | fail)
  go_loopw [23] (fun v23 wr => ∃ i : Nat, i ≤ X.length ∧ v23 = .int .i64 (i : Int) ∧ Aside0 (Below v3.heap.size v3 wr)) (fun v23 _ => X.length - (intOf v23).toNat)
  case atStart => exact ⟨0, by omega, rfl, ⟨Below.refl _ _⟩⟩
  case round =>
    obtain ⟨i, hi, rfl, hB⟩ := hrel
    by_cases hlt : i < X.length
    · have hti : (i : Int) < (X.length : Int) := by omega
      obtain ⟨ad1, ea1, hx1⟩ := Kd.at_bool (Kd.C_below HD3.out hB.out) (i : Int) (by omega) hti
      obtain ⟨ad2, ea2, hx2⟩ := Kd.at_bool (Kd.C_below HC3.out hB.out) (i : Int) (by omega) hti
      subst ea1
      subst ea2
      rw [Int.toNat_natCast] at hx1 hx2
      generalize rdOf false X (i : Int) = bb at *
      go_wp2
      go_quiet (fail)
      go_wp2
      go_roundw
      case rel => exact ⟨i + 1, by omega, by go_num, ⟨below_drewN' hB.out nq⟩⟩
      case measure => simp [intOf]; omega
    · obtain rfl : i = X.length := by omega
      have HBr := Aside0.mk (HB3.out.trans (hB.out.mono HB3.out.size))
      clear HB1 HB2 HB3 HC1 HC2 HC3 HD2 HD3 hB
      go_wp2_with (first
        | (go_at_call 19
           refine (c3.out _ (Kd.C_below HC'.out HBr.out)).mono ?_
           rintro e v4 ⟨u4, rfl, hr4, hb4⟩
           obtain ⟨A4, d4, rfl, hl4, hC4⟩ := Kd.R_reads hr4
           have HC4 := Aside0.mk hC4
           have HL4 := Aside0.mk hl4
           have HB4 := Aside0.mk (HBr.out.trans (hb4.mono HBr.out.size))
           clear hr4 hC4 hl4 hb4)
        | (go_at_call 20
           refine (c4.out _ (Kd.C_below HC'.out HB4.out)).mono ?_
           rintro e v5 ⟨u5, rfl, hr5, hb5⟩
           obtain ⟨A5, d5, rfl, hl5, hC5⟩ := Kd.R_reads hr5
           have HC5 := Aside0.mk hC5
           have HL5 := Aside0.mk hl5
           have HD5 := Aside0.mk (Kd.C_below HC4.out hb5)
           have HB5 := Aside0.mk (HB4.out.trans (hb5.mono HB4.out.size))
           clear hr5 hC5 hl5 hb5)
        | (go_at_call 16
           refine (P.liveryref01_Equal.calls A4 d4 Y A5 d5 Y true _ HD5.out HL4.out HC5.out HL5.out (eq_same Y)).mono ?_
           rintro e v6 ⟨rfl, hd6⟩
           have HB6 := Aside0.mk (HB5.out.trans (hd6.below.mono HB5.out.size))
           clear hd6)
        | fail)
      go_ret
      exact ⟨rfl, HB6.out⟩
end Go.Proofs.YtjjppeodkmfjgaaDoor.Ext
