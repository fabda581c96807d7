/- The contracts of octet.Quote, script.headed and script.picked, in the printer's form. -/
import Derived.Test.YtpdinahdcedmkaaDoorP0
import Derived.Test.YtpdinahdcedmkaaDoorSHead
import Derived.Test.YtpdinahdcedmkaaDoorSPicked
namespace Go.Proofs.YtpdinahdcedmkaaDoor.Ext
open Go.Proofs.YtpdinahdcedmkaaDoor.P
set_option linter.unusedVariables false
open Go.RowKit Go.Proofs.YtpdinahdcedmkaaDoorW.PrintWords Go.Proofs.YtpdinahdcedmkaaDoorW.PrintLast Go.Proofs.YtpdinahdcedmkaaDoorW.PrintMore

theorem tabs_at {w W : World} (hT : Aside0 (Lib.Utf8Tabs 0 1 w)) (hb : Below w.heap.size w W) : Aside0 (Lib.Utf8Tabs 0 1 W) := ⟨Utf8Tabs_below hT.out hb⟩
def octet_Quote.f (a0 : ByteArray) : Option ByteArray := if a0.size ≤ 17592186044416 then some (quoteS a0) else none
theorem octet_Quote.calls (a0 : ByteArray) (r : ByteArray) (w : World) (h : octet_Quote.f a0 = some r) (hT : Aside0 (Lib.Utf8Tabs 0 1 w) := by exact tabs_at HT (by repeat (first | (with_reducible first | exact HB.out | apply below_alloc | apply pw_below_drewN | apply below_drew1) | exact HB.out))) :
    Calls Tryd.prog 51 #[.string a0] w fun e w' => e = .returned (.string r) ∧ Below w.heap.size w w' := by
  unfold octet_Quote.f at h
  by_cases h0 : a0.size ≤ 17592186044416
  · rw [if_pos h0] at h
    obtain rfl := Option.some.inj h
    exact quote_walk a0 w h0 hT.out
  · rw [if_neg h0] at h; cases h
/-- the names' lengths are bounded -/
def smallL (l : List ByteArray) : Bool := decide (l.length ≤ 1048576) && l.all fun s => decide (s.size ≤ 140737488351232)
theorem smallL_len {l : List ByteArray} (h : smallL l = true) : l.length ≤ 1048576 := by
  unfold smallL at h; simp only [Bool.and_eq_true, decide_eq_true_eq] at h; exact h.1
theorem smallL_at {l : List ByteArray} (h : smallL l = true) (i : Nat) : (l.getD i ByteArray.empty).size ≤ 140737488351232 := by
  unfold smallL at h
  simp only [Bool.and_eq_true, decide_eq_true_eq, List.all_eq_true] at h
  rw [List.getD_eq_getElem?_getD]
  by_cases hi : i < l.length
  · rw [List.getElem?_eq_getElem hi]; exact h.2 _ (List.getElem_mem hi)
  · rw [List.getElem?_eq_none (by omega)]; decide
def script_headed.f (a0_0 : Int) (a0_1 : Int) (l0_2 : List ByteArray) (l0_3 : List (S42)) : Option Bool := if smallL l0_2 = true then some (headedS a0_0 a0_1 l0_2) else none
theorem script_headed.calls (a0_0 : Int) (a0_1 : Int) (A0_2 : Option Addr) (c0_2 : Nat) (l0_2 : List ByteArray) (A0_3 : Option Addr) (c0_3 : Nat) (l0_3 : List (S42)) (r : Bool) (w : World) (hr0_2 : Kd.C Kd.string w A0_2 l0_2.length l0_2) (hc0_2 : l0_2.length ≤ c0_2) (hr0_3 : Kd.C k42 w A0_3 l0_3.length l0_3) (hc0_3 : l0_3.length ≤ c0_3) (h : script_headed.f a0_0 a0_1 l0_2 l0_3 = some r) :
    Calls Tryd.prog 23 #[.agg #[.int .i64 a0_0, .int .i64 a0_1, .slice A0_2 l0_2.length c0_2, .slice A0_3 l0_3.length c0_3]] w fun e w' => e = .returned (.bool r) ∧ Below w.heap.size w w' := by
  unfold script_headed.f at h
  by_cases h0 : smallL l0_2 = true
  · rw [if_pos h0] at h
    obtain rfl := Option.some.inj h
    exact c_headed a0_0 a0_1 A0_2 c0_2 l0_2 A0_3 l0_3.length c0_3 w hr0_2 hc0_2 (smallL_len h0) (smallL_at h0)
  · rw [if_neg h0] at h; cases h
def script_picked.f (l0 : List Bool) : Option ByteArray := if l0.length ≤ 1048576 then some (pickS l0) else none
theorem script_picked.calls (A0 : Option Addr) (c0 : Nat) (l0 : List Bool) (r : ByteArray) (w : World) (hr0 : Kd.C Kd.bool w A0 l0.length l0) (hc0 : l0.length ≤ c0) (h : script_picked.f l0 = some r) :
    Calls Tryd.prog 56 #[.slice A0 l0.length c0] w fun e w' => e = .returned (.string r) ∧ Below w.heap.size w w' := by
  unfold script_picked.f at h
  by_cases h0 : l0.length ≤ 1048576
  · rw [if_pos h0] at h
    obtain rfl := Option.some.inj h
    exact c_picked A0 c0 l0 w hr0 hc0 h0
  · rw [if_neg h0] at h; cases h
end Go.Proofs.YtpdinahdcedmkaaDoor.Ext
