/- liverylaw06.ParamNames: true. -/
import Derived.Test.YtdnidnonjbjgmaaRCode
import Derived.Test.YtdnidnonjbjgmaaPLive
namespace Go.Proofs.Ytdnidnonjbjgmaa.Ext
set_option linter.unusedVariables false
open Go.RowKit Go.Proofs.YtdnidnonjbjgmaaW.PrintWords Go.Proofs.YtdnidnonjbjgmaaW.PrintLast Go.Proofs.YtdnidnonjbjgmaaW.PrintMore Go.Proofs.Ytdnidnonjbjgmaa.Spec

set_option maxHeartbeats 4000000 in
set_option maxRecDepth 100000 in
theorem law_Names (kind c : Int) (name : ByteArray) (w : World) (g0 : 0 ≤ c) (g1 : c < 4294967296) :
    Calls Try.prog 6 #[.int .i64 kind, .int .u32 c, .string name] w fun e w' => e = .returned (.bool true) ∧ Below w.heap.size w w' := by
  have cl := Lib.hid c_live
  have HB := Aside0.mk (Below.refl w.heap.size w)
  by_cases hs : name.size ≤ 200
  · have t1 : ¬ (200 : Int) < (name.size : Int) := by omega
    have C1 := fun W => c_Code name W (by omega)
    have C2 := fun W => r_Code name W (by omega)
    have C3 := fun W => c_Name kind c W g0 g1
    have C4 := fun W => r_Name kind c W g0 g1
    generalize codeS name = U at *
    obtain ⟨a, b, e⟩ := U
    generalize nameS kind c = nm at *
    simp only at C1 C2
    have c1 := Lib.hid C1
    have c2 := Lib.hid C2
    have c3 := Lib.hid C3
    have c4 := Lib.hid C4
    clear C1 C2 C3 C4 hs
    go_enter Try.func6, Try.ntmps6
    go_wp2_with (first
      | (go_at_call 9
         refine (cl.out _).mono ?_
         rintro e v ⟨rfl, hb⟩
         replace HB := Aside0.mk (HB.out.trans (hb.mono HB.out.size))
         clear hb)
      | (go_at_call 30
         refine (c1.out _).mono ?_
         rintro e v ⟨rfl, hb⟩
         replace HB := Aside0.mk (HB.out.trans (hb.mono HB.out.size))
         clear hb)
      | (go_at_call 31
         refine (c2.out _).mono ?_
         rintro e v ⟨rfl, hb⟩
         replace HB := Aside0.mk (HB.out.trans (hb.mono HB.out.size))
         clear hb)
      | (go_at_call 32
         refine (c3.out _).mono ?_
         rintro e v ⟨rfl, hb⟩
         replace HB := Aside0.mk (HB.out.trans (hb.mono HB.out.size))
         clear hb)
      | (go_at_call 33
         refine (c4.out _).mono ?_
         rintro e v ⟨rfl, hb⟩
         replace HB := Aside0.mk (HB.out.trans (hb.mono HB.out.size))
         clear hb)
      | fail)
    go_ret
    exact ⟨rfl, HB.out⟩
  · have t1 : (200 : Int) < (name.size : Int) := by omega
    clear hs
    go_enter Try.func6, Try.ntmps6
    go_wp2_with (first
      | (go_at_call 9
         refine (cl.out _).mono ?_
         rintro e v ⟨rfl, hb⟩
         replace HB := Aside0.mk (HB.out.trans (hb.mono HB.out.size))
         clear hb)
      | fail)
    go_ret
    exact ⟨rfl, HB.out⟩
end Go.Proofs.Ytdnidnonjbjgmaa.Ext
