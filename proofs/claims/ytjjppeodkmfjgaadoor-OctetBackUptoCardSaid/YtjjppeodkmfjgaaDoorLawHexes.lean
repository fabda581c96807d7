/- liverylaw01.OctetHexes: true. -/
import Derived.Test.YtjjppeodkmfjgaaDoorUnhexes
namespace Go.Proofs.YtjjppeodkmfjgaaDoor.Ext
set_option linter.unusedVariables false
open Go.RowKit Go.Proofs.YtjjppeodkmfjgaaDoorW.PrintWords Go.Proofs.YtjjppeodkmfjgaaDoorW.PrintLast Go.Proofs.YtjjppeodkmfjgaaDoorW.PrintMore

theorem eq_same (l : List Int) : P.liveryref01_Equal.f l l = some true := by simp [P.liveryref01_Equal.f]

set_option maxHeartbeats 2000000 in
set_option maxRecDepth 100000 in
theorem law_Hexes (A : Option Addr) (c : Nat) (l : List Int) (s : ByteArray) (w : World) (hT : Lib.Utf8Tabs 0 1 w) (hC : Kd.C (Kd.int .u8) w A l.length l) (hc : l.length ≤ c) (hb : Bytes l) (hl : l.length ≤ 1048576) (hs : s.size ≤ 1048576) :
    Calls Tryd.prog 3 #[.slice A l.length c, .string s] w fun e w' => e = .returned (.bool true) ∧ Below w.heap.size w w' := by
  have Cu := fun W => unhex_walk s W (by omega)
  have Cr := fun W => refUnhex_walk s W (by omega)
  generalize unhexS s = U at Cu Cr
  obtain ⟨x, n, e⟩ := U
  simp only at Cu Cr
  have cu := Lib.hid Cu
  have cr := Lib.hid Cr
  have CL := Lib.hid live_walk
  have ch := Lib.hid (fun W h => P.octet_Hex.calls (l.length + 1) A c l _ W h hc (hex_f l hb hl))
  have crh := Lib.hid (fun W h => refHex_walk A c l W h hc hb hl)
  have HT := Lib.hid hT
  have HC := Aside0.mk hC
  clear Cu Cr hT hC hb
  go_enter Tryd.func3, Tryd.ntmps3
  go_wp2_with (first
    | (go_at_call 11
       refine (cu.out _).mono ?_
       rintro e v1 ⟨u1, rfl, hr1, hb1⟩
       obtain ⟨A1, c1, rfl, hl1, hC1⟩ := Kd.R_reads hr1
       have HC1 := Aside0.mk hC1
       have HL1 := Aside0.mk hl1
       have HB1 := Aside0.mk hb1
       clear hr1 hC1 hl1 hb1)
    | (go_at_call 12
       refine (cr.out _).mono ?_
       rintro e v2 ⟨u2, rfl, hr2, hb2⟩
       obtain ⟨A2, c2, rfl, hl2, hC2⟩ := Kd.R_reads hr2
       have HC2 := Aside0.mk hC2
       have HL2 := Aside0.mk hl2
       have HD2 := Aside0.mk (Kd.C_below HC1.out hb2)
       have HB2 := Aside0.mk (HB1.out.trans (hb2.mono HB1.out.size))
       clear hr2 hC2 hl2 hb2)
    | (go_at_call 13
       refine (CL.out _ (Utf8Tabs_below HT.out HB2.out)).mono ?_
       rintro e v3 ⟨rfl, hb3⟩
       have HC3 := Aside0.mk (Kd.C_below HC2.out hb3)
       have HD3 := Aside0.mk (Kd.C_below HD2.out hb3)
       have HB3 := Aside0.mk (HB2.out.trans (hb3.mono HB2.out.size))
       clear hb3)
    | (go_at_call 14
       refine (ch.out _ (Kd.C_below HC.out HB3.out)).mono ?_
       rintro e v4 ⟨rfl, hb4⟩
       have HC4 := Aside0.mk (Kd.C_below HC3.out hb4)
       have HD4 := Aside0.mk (Kd.C_below HD3.out hb4)
       have HB4 := Aside0.mk (HB3.out.trans (hb4.mono HB3.out.size))
       clear hb4)
    | (go_at_call 15
       refine (crh.out _ (Kd.C_below HC.out HB4.out)).mono ?_
       rintro e v5 ⟨rfl, hb5⟩
       have HC5 := Aside0.mk (Kd.C_below HC4.out hb5)
       have HD5 := Aside0.mk (Kd.C_below HD4.out hb5)
       have HB5 := Aside0.mk (HB4.out.trans (hb5.mono HB4.out.size))
       clear hb5)
    | (go_at_call 16
       refine (P.liveryref01_Equal.calls A1 c1 x A2 c2 x true _ HD5.out HL1.out HC5.out HL2.out (eq_same x)).mono ?_
       rintro e v6 ⟨rfl, hd6⟩
       have HB6 := Aside0.mk (HB5.out.trans (hd6.below.mono HB5.out.size))
       clear hd6)
    | fail)
  go_ret
  exact ⟨rfl, HB6.out⟩
end Go.Proofs.YtjjppeodkmfjgaaDoor.Ext
