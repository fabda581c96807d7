import Derived.Test.YtpdinahdcedmkaaDoorMHSets
import Derived.Test.YtpdinahdcedmkaaDoorMRHead
import Derived.Test.YtpdinahdcedmkaaDoorMSayS
/- Region 3 of the document's May. -/
namespace Go.Proofs.YtpdinahdcedmkaaDoor.Ext
open Go.Proofs.YtpdinahdcedmkaaDoor.P
set_option linter.unusedVariables false
set_option linter.unusedSimpArgs false
open Go.RowKit Go.Proofs.YtpdinahdcedmkaaDoorW.PrintWords Go.Proofs.YtpdinahdcedmkaaDoorW.PrintLast Go.Proofs.YtpdinahdcedmkaaDoorW.PrintMore Go.Proofs.YtpdinahdcedmkaaDoor.Spec

attribute [local go_sem high] eqRg
end Go.Proofs.YtpdinahdcedmkaaDoor.Ext
/- Region 8 of the document's May. -/
namespace Go.Proofs.YtpdinahdcedmkaaDoor.Ext
open Go.Proofs.YtpdinahdcedmkaaDoor.P
set_option linter.unusedVariables false
set_option linter.unusedSimpArgs false
open Go.RowKit Go.Proofs.YtpdinahdcedmkaaDoorW.PrintWords Go.Proofs.YtpdinahdcedmkaaDoorW.PrintLast Go.Proofs.YtpdinahdcedmkaaDoorW.PrintMore Go.Proofs.YtpdinahdcedmkaaDoor.Spec

attribute [local go_sem high] eqRg
end Go.Proofs.YtpdinahdcedmkaaDoor.Ext
/- the document's May: may an act be in a plan? -/
namespace Go.Proofs.YtpdinahdcedmkaaDoor.Ext
open Go.Proofs.YtpdinahdcedmkaaDoor.P
set_option linter.unusedVariables false
set_option linter.unusedSimpArgs false
open Go.RowKit Go.Proofs.YtpdinahdcedmkaaDoorW.PrintWords Go.Proofs.YtpdinahdcedmkaaDoorW.PrintLast Go.Proofs.YtpdinahdcedmkaaDoorW.PrintMore Go.Proofs.YtpdinahdcedmkaaDoor.Spec

end Go.Proofs.YtpdinahdcedmkaaDoor.Ext
/- the document's Check. -/
namespace Go.Proofs.YtpdinahdcedmkaaDoor.Ext
open Go.Proofs.YtpdinahdcedmkaaDoor.P
set_option linter.unusedVariables false
set_option linter.unusedSimpArgs false
open Go.RowKit Go.Proofs.YtpdinahdcedmkaaDoorW.PrintWords Go.Proofs.YtpdinahdcedmkaaDoorW.PrintLast Go.Proofs.YtpdinahdcedmkaaDoorW.PrintMore

end Go.Proofs.YtpdinahdcedmkaaDoor.Ext
/- An act may be on the one side as on the other; what is known of a readable plan that is not big. -/
namespace Go.Proofs.YtpdinahdcedmkaaDoor.Ext
open Go.Proofs.YtpdinahdcedmkaaDoor.P
set_option linter.unusedVariables false
set_option linter.unusedSimpArgs false
open Go.RowKit Go.Proofs.YtpdinahdcedmkaaDoorW.PrintWords Go.Proofs.YtpdinahdcedmkaaDoorW.PrintLast Go.Proofs.YtpdinahdcedmkaaDoorW.PrintMore Go.Proofs.YtpdinahdcedmkaaDoor.Spec

theorem keyed_eq (x : Act) : keyedS x = !(b2R (hasS x.f0 115) x.f3 x.f5 (setsS x) x.f4.length) := by
  unfold keyedS b2R
  cases hasS x.f0 115 with
  | false =>
    rw [Bool.eq_iff_iff]
    simp
    try omega
  | true =>
    by_cases h0 : x.f3 = 0
    · have : setsS x = false := by unfold setsS; rw [h0]; rfl
      rw [this, h0]; rfl
    · have e : (x.f3 != 0) = true := bne_iff_ne.2 h0
      rw [e]
      cases setsS x <;> rfl
theorem sized_eq (d nn : Int) (n k : Nat) : sizedS d n nn k = (dataR d n && (numberR d nn && (decide (k = 0) || (hasS d 112 && decide (k ≤ 600))))) := by
  unfold sizedS sizeB dataR numberR lowS highS mostS picksS
  cases hasS d 119 <;> cases hasS d 109 <;> cases hasS d 120 <;> cases hasS d 98 <;> cases hasS d 110 <;> cases hasS d 112 <;> (rw [Bool.eq_iff_iff]; simp; try omega)
theorem placed_eq (n : Nat) (x : Act) : placedS n x = (!(b4R (hasS x.f0 100) (hasS x.f0 116) x.f1 x.f2 n) && !(b5R (hasS x.f0 107) (hasS x.f0 105) (hasS x.f0 114) x.f6 x.f7 x.f8.f0 x.f8.f1)) := by
  unfold placedS b4R b5R inS oneS
  cases hasS x.f0 100 <;> cases hasS x.f0 116 <;> cases hasS x.f0 107 <;> cases hasS x.f0 105 <;> cases hasS x.f0 114 <;> (rw [Bool.eq_iff_iff]; simp; try omega)
theorem empty_eq (d : Int) : (rowOf d).1.toList.isEmpty = (rowOf d).2.toList.isEmpty := by
  unfold rowOf
  split
  · rename_i h
    obtain ⟨n, rfl⟩ := Int.eq_ofNat_of_zero_le h.1
    have : ∀ n : Fin 18, (rowTab.getD n.val (⟨#[]⟩, ⟨#[]⟩)).1.toList.isEmpty = (rowTab.getD n.val (⟨#[]⟩, ⟨#[]⟩)).2.toList.isEmpty := by decide +kernel
    exact this ⟨n, by omega⟩
  · rfl
theorem may_eq (n : Nat) (x : Act) : mayS n x = mayR n x := by
  unfold mayS mayR
  rw [keyed_eq, sized_eq, placed_eq, empty_eq]
  generalize (rowOf x.f0).2.toList.isEmpty = a
  generalize b2R _ _ _ _ _ = b
  generalize dataR _ _ = c
  generalize numberR _ _ = e
  generalize b4R _ _ _ _ _ = f
  generalize b5R _ _ _ _ _ _ _ = g
  generalize (decide (x.f11.length = 0) || _) = h
  cases a <;> cases b <;> cases c <;> cases e <;> cases f <;> cases g <;> cases h <;> rfl
/-- a readable plan's numbers are of their kinds -/
def u64P (n : Int) : Prop := 0 ≤ n ∧ n < 18446744073709551616
structure ActOk (x : Act) : Prop where
  bd : ActBd x
  by_ : Bytes x.f10
  rg : u64P x.f8.f0 ∧ u64P x.f8.f1
  ky : u32P x.f6
  td : u32P x.f7
  ix : ∀ n ∈ [x.f0, x.f1, x.f2, x.f3, x.f9], -9223372036854775808 ≤ n ∧ n ≤ 9223372036854775807
structure PlanOk (p : Plan) : Prop where
  ac : ∀ i, ActOk (p.f3.getD i z42)
  sr : ∀ n ∈ [p.f0, p.f1], -9223372036854775808 ≤ n ∧ n ≤ 9223372036854775807
theorem big_names {p : Plan} (h : bigS p = false) : p.f2.length ≤ 40 ∧ ∀ i, (p.f2.getD i ByteArray.empty).size ≤ 1000 := by
  unfold bigS bigL at h
  simp only [Bool.or_eq_false_iff, decide_eq_false_iff_not, List.any_eq_false, decide_eq_true_eq] at h
  refine ⟨by omega, fun i => ?_⟩
  rw [List.getD_eq_getElem?_getD]
  by_cases hi : i < p.f2.length
  · rw [List.getElem?_eq_getElem hi]
    have := h.2.1 _ (List.getElem_mem hi)
    show (p.f2[i]).size ≤ 1000
    omega
  · rw [List.getElem?_eq_none (by omega)]
    show (0 : Nat) ≤ 1000
    omega
theorem planBd {p : Plan} (h : bigS p = false) (hp : PlanOk p) : PlanBd p := ⟨by have := (big_names h).1; omega, fun i => by have := (big_names h).2 i; omega, fun i => (hp.ac i).bd⟩
end Go.Proofs.YtpdinahdcedmkaaDoor.Ext
