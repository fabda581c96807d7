/- liverylaw01.live: true, where Go's two tables of UTF-8 hold what they are to hold. -/
import Derived.Test.YtjjppeodkmfjgaaDoorUnhex
import Derived.Test.YtjjppeodkmfjgaaDoorP1
namespace Go.Proofs.YtjjppeodkmfjgaaDoor.Ext
set_option linter.unusedVariables false
open Go.RowKit Go.Proofs.YtjjppeodkmfjgaaDoorW.PrintWords Go.Proofs.YtjjppeodkmfjgaaDoorW.PrintLast Go.Proofs.YtjjppeodkmfjgaaDoorW.PrintMore

theorem live_big : P.octet_Big.f 20 258 3 = some ([0, 1, 2], 0) := by decide +kernel
theorem live_eq : P.liveryref01_Equal.f [0, 1, 2] [0, 1, 2] = some true := by decide +kernel
theorem live_unhex : unhexS ⟨#[48, 103]⟩ = ([], 1, 10) := by decide +kernel
theorem live_quote : quoteS ⟨#[255]⟩ = ⟨#[34, 92, 120, 102, 102, 34]⟩ := by decide +kernel

theorem below_new (w : World) (o : Obj) : Below w.heap.size w (w.alloc o) := (Below.refl _ _).alloc (Nat.le_refl _) o
theorem u8three : (#[.int .u8 0, .int .u8 1, .int .u8 2] : Array Value).toList = nums .u8 [0, 1, 2] := rfl
theorem C_lit {w : World} {cs : Array Value} {L : List Int} (h : cs.toList = nums .u8 L) (hl : L.length ≤ maxLen) : Kd.C (Kd.int .u8) (w.alloc (.cells cs 5)) (some ⟨w.heap.size, 0, none⟩) L.length L := by
  have e : cs.size = L.length := by
    have := congrArg List.length h
    simpa [nums] using this
  have h1 := World.ownsRow_lit (base := w.heap.size) (e := 5) (size := 1) w cs L.length (Nat.le_refl _) hl (by rw [Nat.mul_one, e])
  rw [h] at h1
  exact (Kd.R_reads' (Kd.R_of_own h1 (fun _ _ => trivial))).2.2
set_option maxHeartbeats 2000000 in
set_option maxRecDepth 100000 in
theorem live_walk (w : World) (hT : Lib.Utf8Tabs 0 1 w) :
    Calls Tryd.prog 13 #[] w fun e w' => e = .returned (.bool true) ∧ Below w.heap.size w w' := by
  have Cb := fun W => P.octet_Big.calls 20 258 3 _ _ W live_big
  have Cu := fun W => unhex_walk ⟨#[48, 103]⟩ W (by decide)
  have Cq := fun W hT => quote_walk ⟨#[255]⟩ W (by decide) hT
  rw [live_unhex] at Cu
  rw [live_quote] at Cq
  have cb := Lib.hid Cb
  have cu := Lib.hid Cu
  have cq := Lib.hid Cq
  have HT := Lib.hid hT
  clear Cb Cu Cq hT
  go_enter Tryd.func13, Tryd.ntmps13
  go_wp2_with (first
    | (go_at_call 28
       refine (cb.out _).mono ?_
       rintro e v1 ⟨u1, rfl, hr1, hb1⟩
       obtain ⟨A1, c1, rfl, hl1, hC1⟩ := Kd.R_reads hr1
       have HC1 := Aside0.mk hC1
       have HL1 := Aside0.mk hl1
       have HB1 := Aside0.mk hb1
       clear hr1 hC1 hl1 hb1)
    | (go_at_call 11
       refine (cu.out _).mono ?_
       rintro e v2 ⟨u2, rfl, hr2, hb2⟩
       have HC2 := Aside0.mk (Kd.C_below HC1.out hb2)
       have HB2 := Aside0.mk (HB1.out.trans (hb2.mono HB1.out.size))
       clear hr2 hb2)
    | (go_at_call 16
       refine (P.liveryref01_Equal.calls A1 c1 [0, 1, 2] _ 3 [0, 1, 2] true _ (Kd.C_below HC2.out (below_new _ _)) HL1.out (C_lit u8three (by decide)) (by decide) live_eq).mono ?_
       rintro e v3 ⟨rfl, hd3⟩
       have HB3 := Aside0.mk ((HB2.out.alloc HB2.out.size (.cells #[.int .u8 0, .int .u8 1, .int .u8 2] 5)).trans (hd3.below.mono (by have := HB2.out.size; simp; omega)))
       clear hd3)
    | (go_at_call 22
       refine (cq.out _ (Utf8Tabs_below HT.out HB3.out)).mono ?_
       rintro e v4 ⟨rfl, hb4⟩
       have HB4 := Aside0.mk (HB3.out.trans (hb4.mono HB3.out.size))
       clear hb4)
    | fail)
  go_ret
  exact ⟨rfl, HB4.out⟩
end Go.Proofs.YtjjppeodkmfjgaaDoor.Ext
