/- liveryref01.Unhex: what octet.Unhex answers. -/
import Derived.Test.YtpdinahdcedmkaaDoorHexes
namespace Go.Proofs.YtpdinahdcedmkaaDoor.Ext
set_option linter.unusedVariables false
open Go.RowKit Go.Proofs.YtpdinahdcedmkaaDoorW.PrintWords Go.Proofs.YtpdinahdcedmkaaDoorW.PrintLast Go.Proofs.YtpdinahdcedmkaaDoorW.PrintMore

theorem iter_drawn {W W' : World} {k : Nat} {x : Option Obj} (h : W.heap[k]? = x) (hd : Drawn0 W W') : W'.heap[k]? = x := by obtain ⟨n, rfl⟩ := hd; simpa using h
theorem R_drawn {W W' : World} {b e : Nat} {ok : Nat → Prop} {v : Value} {l : List Int} (h : Kd.R (Kd.int .u8) e W b ok v l) (hd : Drawn0 W W') : Kd.R (Kd.int .u8) e W' b ok v l := by obtain ⟨n, rfl⟩ := hd; exact Kd.R_drewN h n
theorem below_drawn {b : Nat} {w W W' : World} (h : Below b w W) (hd : Drawn0 W W') : Below b w W' := by obtain ⟨n, rfl⟩ := hd; exact pw_below_drewN h n
theorem pk_even2 (l : List Int) (a d : Int) (h : l.length % 2 = 0) : pk (l ++ [a] ++ [d]) = pk l ++ [a * 16 + d] := by
  rw [pk_odd (l ++ [a]) d (by simp; omega), pk_even l a h]
  have h1 : (l ++ [a]).length / 2 = (pk l).length := by rw [pk_len, List.length_append, List.length_singleton]
  rw [h1]
  simp
end Go.Proofs.YtpdinahdcedmkaaDoor.Ext
