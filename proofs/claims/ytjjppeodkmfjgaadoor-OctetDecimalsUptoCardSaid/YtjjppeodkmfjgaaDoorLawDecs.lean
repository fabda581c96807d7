/- liverylaw01.OctetDecimals: true. -/
import Derived.Test.YtjjppeodkmfjgaaDoorDecs
import Derived.Test.YtjjppeodkmfjgaaDoorLive
namespace Go.Proofs.YtjjppeodkmfjgaaDoor.Ext
set_option linter.unusedVariables false
open Go.RowKit Go.Proofs.YtjjppeodkmfjgaaDoorW.PrintWords Go.Proofs.YtjjppeodkmfjgaaDoorW.PrintLast Go.Proofs.YtjjppeodkmfjgaaDoorW.PrintMore

set_option maxHeartbeats 2000000 in
set_option maxRecDepth 100000 in
theorem law_Decimals (n : Int) (s : ByteArray) (w : World) (hT : Lib.Utf8Tabs 0 1 w) (hn : 0 ≤ n ∧ n ≤ 18446744073709551615) (hs : s.size ≤ 1048576) :
    Calls Tryd.prog 6 #[.int .u64 n, .string s] w fun e w' => e = .returned (.bool true) ∧ Below w.heap.size w w' := by
  have Cu := fun W => number_walk s W (by omega)
  have Cr := fun W => digits_walk s W (by omega)
  generalize numS s = U at Cu Cr
  obtain ⟨x, e⟩ := U
  simp only at Cu Cr
  have cu := Lib.hid Cu
  have cr := Lib.hid Cr
  have CL := Lib.hid live_walk
  have c1 := Lib.hid (fun W => octet_Decimal.calls n (strOfNums (decL n.toNat)) W (by unfold octet_Decimal.f; rw [if_pos hn.1, if_pos (by omega)]))
  have c2 := Lib.hid (fun W => P.liveryref01_Decimal.calls 20 n (strOfNums (decL n.toNat)) W (by
    have := rdec_f n.toNat (by omega)
    rwa [Int.toNat_of_nonneg hn.1] at this))
  generalize strOfNums (decL n.toNat) = D at *
  have HT := Lib.hid hT
  clear Cu Cr hT
  go_enter Tryd.func6, Tryd.ntmps6
  go_wp2_with (first
    | (go_at_call 24
       refine (cu.out _).mono ?_
       rintro e v1 ⟨rfl, hb1⟩
       have HB1 := Aside0.mk hb1
       clear hb1)
    | (go_at_call 25
       refine (cr.out _).mono ?_
       rintro e v2 ⟨rfl, hb2⟩
       have HB2 := Aside0.mk (HB1.out.trans (hb2.mono HB1.out.size))
       clear hb2)
    | (go_at_call 13
       refine (CL.out _ (Utf8Tabs_below HT.out HB2.out)).mono ?_
       rintro e v3 ⟨rfl, hb3⟩
       have HB3 := Aside0.mk (HB2.out.trans (hb3.mono HB2.out.size))
       clear hb3)
    | (go_at_call 26
       refine (c1.out _).mono ?_
       rintro e v4 ⟨rfl, hb4⟩
       have HB4 := Aside0.mk (HB3.out.trans (hb4.mono HB3.out.size))
       clear hb4)
    | (go_at_call 27
       refine (c2.out _).mono ?_
       rintro e v5 ⟨rfl, hb5⟩
       have HB5 := Aside0.mk (below_drawn HB4.out hb5)
       clear hb5)
    | fail)
  go_ret
  exact ⟨rfl, HB5.out⟩
end Go.Proofs.YtjjppeodkmfjgaaDoor.Ext
