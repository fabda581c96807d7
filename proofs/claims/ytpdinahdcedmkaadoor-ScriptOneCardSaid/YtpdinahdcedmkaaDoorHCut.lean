import Derived.Test.YtpdinahdcedmkaaDoorShelf
import Derived.Test.YtpdinahdcedmkaaDoorQuote
import Derived.Lib.CutLaws
import Derived.BigRegion
/- strings.Cut at a slash. -/
namespace Go.Proofs.YtpdinahdcedmkaaDoor.Ext
set_option linter.unusedVariables false
set_option linter.unusedSimpArgs false
open Go.RowKit Go.Proofs.YtpdinahdcedmkaaDoorW.PrintWords Go.Proofs.YtpdinahdcedmkaaDoorW.PrintLast Go.Proofs.YtpdinahdcedmkaaDoorW.PrintMore

def slashI (s : ByteArray) : Int := Lib.indexByte s.data.toList 47
/-- what is ahead of a text's first slash, and what is behind it -/
def slashS (s : ByteArray) : ByteArray × ByteArray := if 0 ≤ slashI s then (s.extract 0 (slashI s).toNat, s.extract ((slashI s).toNat + 1) s.size) else (s, ⟨#[]⟩)
set_option maxHeartbeats 2000000 in
set_option maxRecDepth 100000 in
theorem c_lcut (s : ByteArray) (w : World) (hs : s.size ≤ 140737488351232) (hlt : slashI s < (s.size : Int)) :
    Calls Tryd.prog 84 #[.string s, .string ⟨#[47]⟩] w fun e w' => e = .returned (.tuple #[.string (slashS s).1, .string (slashS s).2, .bool (decide (0 ≤ slashI s))]) ∧ Below w.heap.size w w' := by
  have ci := Lib.hid (fun W => Tryd.stringslite_Index_one s 47 W)
  unfold slashS
  rw [show Lib.indexByte s.data.toList 47 = slashI s from rfl] at ci
  by_cases h0 : 0 ≤ slashI s
  · obtain ⟨i, hi⟩ := Int.eq_ofNat_of_zero_le h0
    rw [if_pos h0, decide_eq_true h0]
    rw [hi] at ci ⊢
    rw [Int.toNat_natCast]
    have c1 : (0 : Int) ≤ (i : Int) := by omega
    have c2 : (i : Int) ≤ (s.size : Int) := by omega
    have c3 : (0 : Int) ≤ (i : Int) + 1 := by omega
    have c4 : (i : Int) + 1 ≤ (s.size : Int) := by omega
    clear h0 hlt hi
    go_enter Tryd.func84, Tryd.ntmps84
    go_wp2_with (first
      | (go_at_call 96
         refine (ci.out _).mono ?_
         rintro e v ⟨rfl, hv⟩
         obtain rfl := hv.symm)
      | fail)
    go_region
    go_wp2
    go_ret3
    exact ⟨rfl, Below.drew (Below.refl _ _)⟩
  · rw [if_neg h0, decide_eq_false h0]
    have c1 : slashI s < 0 := by omega
    generalize slashI s = i at *
    clear h0 hlt
    go_enter Tryd.func84, Tryd.ntmps84
    go_wp2_with (first
      | (go_at_call 96
         refine (ci.out _).mono ?_
         rintro e v ⟨rfl, hv⟩
         obtain rfl := hv.symm)
      | fail)
    go_ret3
    exact ⟨rfl, Below.refl _ _⟩
set_option maxHeartbeats 2000000 in
set_option maxRecDepth 100000 in
theorem c_Cut (s : ByteArray) (w : World) (hs : s.size ≤ 140737488351232) (hlt : slashI s < (s.size : Int)) :
    Calls Tryd.prog 64 #[.string s, .string ⟨#[47]⟩] w fun e w' => e = .returned (.tuple #[.string (slashS s).1, .string (slashS s).2, .bool (decide (0 ≤ slashI s))]) ∧ Below w.heap.size w w' := by
  have ci := Lib.hid (fun W => c_lcut s W hs hlt)
  generalize slashS s = x at *
  generalize decide (0 ≤ slashI s) = z at *
  clear hs hlt
  go_enter Tryd.func64, Tryd.ntmps64
  go_wp2_with (first
    | (go_at_call 84
       refine (ci.out _).mono ?_
       rintro e v ⟨rfl, hb⟩)
    | fail)
  go_ret3
  exact ⟨rfl, hb⟩
end Go.Proofs.YtpdinahdcedmkaaDoor.Ext

