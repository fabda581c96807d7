/- liverylaw01.live: true, where Go's two tables of UTF-8 hold what they are to hold. -/
import Derived.Test.YtpdinahdcedmkaaDoorUnhex
namespace Go.Proofs.YtpdinahdcedmkaaDoor.Ext
set_option linter.unusedVariables false
open Go.RowKit Go.Proofs.YtpdinahdcedmkaaDoorW.PrintWords Go.Proofs.YtpdinahdcedmkaaDoorW.PrintLast Go.Proofs.YtpdinahdcedmkaaDoorW.PrintMore

theorem live_unhex : unhexS ⟨#[48, 103]⟩ = ([], 1, 10) := by decide +kernel
theorem live_quote : quoteS ⟨#[255]⟩ = ⟨#[34, 92, 120, 102, 102, 34]⟩ := by decide +kernel

theorem below_new (w : World) (o : Obj) : Below w.heap.size w (w.alloc o) := (Below.refl _ _).alloc (Nat.le_refl _) o
theorem u8three : (#[.int .u8 0, .int .u8 1, .int .u8 2] : Array Value).toList = nums .u8 [0, 1, 2] := rfl
theorem C_lit {w : World} {cs : Array Value} {L : List Int} (h : cs.toList = nums .u8 L) (hl : L.length ≤ maxLen) : Kd.C (Kd.int .u8) (w.alloc (.cells cs 5)) (some ⟨w.heap.size, 0, none⟩) L.length L := by
  have e : cs.size = L.length := by
    have := congrArg List.length h
    simpa [nums] using this
  have h1 := World.ownsRow_lit (base := w.heap.size) (e := 5) (size := 1) w cs L.length (Nat.le_refl _) hl (by rw [Nat.mul_one, e])
  rw [h] at h1
  exact (Kd.R_reads' (Kd.R_of_own h1 (fun _ _ => trivial))).2.2
end Go.Proofs.YtpdinahdcedmkaaDoor.Ext
