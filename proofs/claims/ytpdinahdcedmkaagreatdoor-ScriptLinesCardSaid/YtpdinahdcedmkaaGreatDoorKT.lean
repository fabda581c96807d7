import Derived.Test.YtpdinahdcedmkaaGreatDoorK9
namespace Go.Proofs.YtpdinahdcedmkaaGreatDoor.Ext
open Go.RowKit YtpdinahdcedmkaaGreatDoorW.PrintWords YtpdinahdcedmkaaGreatDoorW.PrintLast YtpdinahdcedmkaaGreatDoorW.PrintMore
theorem tkJ {P : Program} {ops : Array Oper} {Q : Exit -> Go.Act -> World -> Prop} {md : Region.Mode} {S : World -> Prop} {fuel : Nat} {l : Array Bool} {a : Go.Act} {w : World} (i : Nat) {oi : Oper} {v : Value} {a' : Go.Act} (hi : ops[i]? = some oi := by rfl)
 (hc : (Region.noSelect ops && (Region.free md ops l i && (Region.ready md ops l).contains i)) = true := by kernel_rfl) (hw : Region.wanted oi (yielded ops a.tmps) = true := by rfl)
 (hy : ∀ w, S w -> (execOp a.eval oi).run P w = .ok (.value v) w := by (intro w hSw; (try dsimp only at hSw); (try simp only [HX] at hSw); go_simp; (try with_reducible rfl)))
 (hQ : ∀ c a w, Q (.panic c) (a.put oi.dst v) w -> Q (.panic c) a w := by first | exact fun _ _ _ h => h | exact fun c a w h => HQ.out c _ _ _ w h) (hS : S w := by assumption)
 (ha : a.put oi.dst v = a' := by ((try simp only [Act.put,pA,pB,pC,pD,pE,pF]); rfl))
 (h : wpAnyH P md ops Q S fuel (l.setIfInBounds i true) a' w) : wpAnyH P md ops Q S (fuel + 1) l a w := tkH i hi hc hw hy hQ hS ha h
theorem skJ {P : Program} {ops : Array Oper} {Q : Exit -> Go.Act -> World -> Prop} {md : Region.Mode} {S : World -> Prop} {fuel : Nat} {l : Array Bool} {a : Go.Act} {w : World} (i : Nat) {oi : Oper} {a' : Go.Act} (hi : ops[i]? = some oi := by rfl)
 (hc : (Region.noSelect ops && (Region.free md ops l i && (Region.ready md ops l).contains i)) = true := by kernel_rfl) (hw : Region.wanted oi (yielded ops a.tmps) = false := by rfl)
 (hQ : ∀ c a w, Q (.panic c) (a.put oi.dst undef) w -> Q (.panic c) a w := by first | exact fun _ _ _ h => h | exact fun c a w h => HQ.out c _ _ _ w h) (hS : S w := by assumption)
 (ha : a.put oi.dst undef = a' := by ((try simp only [Act.put,pA,pB,pC,pD,pE,pF]); rfl))
 (h : wpAnyH P md ops Q S fuel (l.setIfInBounds i true) a' w) : wpAnyH P md ops Q S (fuel + 1) l a w := skH i hi hc hw hQ hS ha h
end Go.Proofs.YtpdinahdcedmkaaGreatDoor.Ext
