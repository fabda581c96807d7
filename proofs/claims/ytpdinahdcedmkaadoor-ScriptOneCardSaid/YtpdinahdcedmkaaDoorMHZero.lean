import Derived.Test.YtpdinahdcedmkaaDoorP1
import Derived.Test.YtpdinahdcedmkaaDoorMDec
import Derived.Test.YtpdinahdcedmkaaDoorP0
import Derived.Test.YtpdinahdcedmkaaDoorMHead
/- the document's has: has an act a letter? -/
namespace Go.Proofs.YtpdinahdcedmkaaDoor.Ext
open Go.Proofs.YtpdinahdcedmkaaDoor.P
set_option linter.unusedVariables false
set_option linter.unusedSimpArgs false
open Go.RowKit Go.Proofs.YtpdinahdcedmkaaDoorW.PrintWords Go.Proofs.YtpdinahdcedmkaaDoorW.PrintLast Go.Proofs.YtpdinahdcedmkaaDoorW.PrintMore

end Go.Proofs.YtpdinahdcedmkaaDoor.Ext
/- The kit of the hand contracts over acts and plans: the document's has in the program's own words, boxes. -/
namespace Go.Proofs.YtpdinahdcedmkaaDoor.Ext
open Go.Proofs.YtpdinahdcedmkaaDoor.P
set_option linter.unusedVariables false
set_option linter.unusedSimpArgs false
open Go.RowKit Go.Proofs.YtpdinahdcedmkaaDoorW.PrintWords Go.Proofs.YtpdinahdcedmkaaDoorW.PrintLast Go.Proofs.YtpdinahdcedmkaaDoorW.PrintMore

/-- a bool's contract -/
def BoolB (b : Bool) (w : World) (e : Ending) (w' : World) : Prop := e = .returned (.bool b) ∧ Below w.heap.size w w'
theorem boolB_i {a b : Bool} {w w' : World} (h : a = b) (hb : Below w.heap.size w w') : BoolB b w (.returned (.bool a)) w' := ⟨by rw [h], hb⟩
/-- block g of the call's own world W holds these cells; what was there ahead of the call (in w) is as it was -/
structure Bx (w W : World) (g : Nat) (cs : List Value) (t : TypeId) : Prop where
  row : W.heap[g]? = some (.cells cs.toArray t (0, 0))
  hb : Below w.heap.size w W
theorem Bx.new (w : World) (cs : List Value) (t : TypeId) : Bx w (w.alloc (.cells cs.toArray t)) w.heap.size cs t := ⟨heap_alloc_new w _, (Below.refl _ _).alloc (Nat.le_refl _) _⟩
theorem Bx.next {w W W' : World} {g : Nat} {cs : List Value} {t : TypeId} (h : Bx w W g cs t) (hb : Below W.heap.size W W') : Bx w W' g cs t := ⟨krow h.row hb, h.hb.trans (hb.mono h.hb.size)⟩
theorem Bx.push {w W : World} {g : Nat} {cs : List Value} {t : TypeId} (h : Bx w W g cs t) (o : Obj) : Bx w (W.alloc o) g cs t := h.next ((Below.refl _ _).alloc (Nat.le_refl _) _)
theorem Bx.on {w W : World} {g : Nat} {cs : List Value} {t : TypeId} (h : Bx w W g cs t) (cs' : List Value) (t' : TypeId) : Bx w (W.alloc (.cells cs'.toArray t')) W.heap.size cs' t' := ⟨heap_alloc_new W _, h.hb.alloc h.hb.size _⟩
theorem Bx.c {w W : World} {g : Nat} {cs : List Value} {t : TypeId} (h : Bx w W g cs t) (i : Nat) : W.cell? ⟨g, i, none⟩ = cs.toArray[i]? := blk_cell h.row i
theorem Bx.z {w W : World} {g : Nat} {cs : List Value} {t : TypeId} (h : Bx w W g cs t) (i : Nat) : W.frozen? ⟨g, i, none⟩ = false := blk_frozen h.row i
theorem Bx.lt {w W : World} {g : Nat} {cs : List Value} {t : TypeId} (h : Bx w W g cs t) : g < W.heap.size := (Array.getElem?_eq_some_iff.1 h.row).1
theorem Bx.at_ {w W : World} {g g' : Nat} {cs : List Value} {t : TypeId} (h : Bx w W g cs t) (e : g = g') : Bx w W g' cs t := e ▸ h
theorem eqRg (d : Nat) (w : World) (x0 y0 : Int) (x1 y1 : Int) :
    (Op.equalIn (d + 2) 38 (.agg #[.int .u64 x0, .int .u64 x1]) (.agg #[.int .u64 y0, .int .u64 y1])).run Tryd.prog w = .ok (x0 == y0 && (x1 == y1)) w := by
  refine eqA_of Tryd.underlying38 (by kernel_rfl) ?_
  refine eqf_cons (by rfl) (by go_simp; rfl) (by go_simp; rfl) (by go_simp) ?_
  exact eqf_last (by rfl) (by go_simp; rfl) (by go_simp; rfl) (by go_simp)
theorem eqLv (d : Nat) (w : World) (x0 y0 : Int) (x1 y1 : Int) :
    (Op.equalIn (d + 2) 72 (.agg #[.int .u32 x0, .int .u32 x1]) (.agg #[.int .u32 y0, .int .u32 y1])).run Tryd.prog w = .ok (x0 == y0 && (x1 == y1)) w := by
  refine eqA_of Tryd.underlying72 (by kernel_rfl) ?_
  refine eqf_cons (by rfl) (by go_simp; rfl) (by go_simp; rfl) (by go_simp) ?_
  exact eqf_last (by rfl) (by go_simp; rfl) (by go_simp; rfl) (by go_simp)
theorem nat_beq0 (n : Nat) : ((n : Int) == 0) = decide (n = 0) := by rw [Bool.eq_iff_iff]; simp
/-- what a walk holds of a plan's box (pb) and an act's (xb) -/
def HX (w : World) (tp ta : TypeId) (pb xb : Nat) (p0 p1 p2 p3 c0 c1 c2 c3 c4 c5 c6 c7 c8 c9 c10 c11 c12 : Value) (W : World) : Prop := W.cell? ⟨pb, 0, none⟩ = some p0 ∧ W.cell? ⟨pb, 1, none⟩ = some p1 ∧ W.cell? ⟨pb, 2, none⟩ = some p2 ∧ W.cell? ⟨pb, 3, none⟩ = some p3 ∧ W.cell? ⟨xb, 0, none⟩ = some c0 ∧ W.cell? ⟨xb, 1, none⟩ = some c1 ∧ W.cell? ⟨xb, 2, none⟩ = some c2 ∧ W.cell? ⟨xb, 3, none⟩ = some c3 ∧ W.cell? ⟨xb, 4, none⟩ = some c4 ∧ W.cell? ⟨xb, 5, none⟩ = some c5 ∧ W.cell? ⟨xb, 6, none⟩ = some c6 ∧ W.cell? ⟨xb, 7, none⟩ = some c7 ∧ W.cell? ⟨xb, 8, none⟩ = some c8 ∧ W.cell? ⟨xb, 9, none⟩ = some c9 ∧ W.cell? ⟨xb, 10, none⟩ = some c10 ∧ W.cell? ⟨xb, 11, none⟩ = some c11 ∧ W.cell? ⟨xb, 12, none⟩ = some c12 ∧ Aside0 (Bx w W pb [p0, p1, p2, p3] tp) ∧ Aside0 (Bx w W xb [c0, c1, c2, c3, c4, c5, c6, c7, c8, c9, c10, c11, c12] ta)
theorem hx_mk {w W : World} {tp ta : TypeId} {pb xb : Nat} {p0 p1 p2 p3 c0 c1 c2 c3 c4 c5 c6 c7 c8 c9 c10 c11 c12 : Value} (h1 : Bx w W pb [p0, p1, p2, p3] tp) (h2 : Bx w W xb [c0, c1, c2, c3, c4, c5, c6, c7, c8, c9, c10, c11, c12] ta) : HX w tp ta pb xb p0 p1 p2 p3 c0 c1 c2 c3 c4 c5 c6 c7 c8 c9 c10 c11 c12 W := ⟨h1.c 0, h1.c 1, h1.c 2, h1.c 3, h2.c 0, h2.c 1, h2.c 2, h2.c 3, h2.c 4, h2.c 5, h2.c 6, h2.c 7, h2.c 8, h2.c 9, h2.c 10, h2.c 11, h2.c 12, ⟨h1⟩, ⟨h2⟩⟩
theorem HX.p {w W : World} {tp ta : TypeId} {pb xb : Nat} {p0 p1 p2 p3 c0 c1 c2 c3 c4 c5 c6 c7 c8 c9 c10 c11 c12 : Value} (h : HX w tp ta pb xb p0 p1 p2 p3 c0 c1 c2 c3 c4 c5 c6 c7 c8 c9 c10 c11 c12 W) : Bx w W pb [p0, p1, p2, p3] tp := h.2.2.2.2.2.2.2.2.2.2.2.2.2.2.2.2.2.1.out
theorem HX.x {w W : World} {tp ta : TypeId} {pb xb : Nat} {p0 p1 p2 p3 c0 c1 c2 c3 c4 c5 c6 c7 c8 c9 c10 c11 c12 : Value} (h : HX w tp ta pb xb p0 p1 p2 p3 c0 c1 c2 c3 c4 c5 c6 c7 c8 c9 c10 c11 c12 W) : Bx w W xb [c0, c1, c2, c3, c4, c5, c6, c7, c8, c9, c10, c11, c12] ta := h.2.2.2.2.2.2.2.2.2.2.2.2.2.2.2.2.2.2.out
theorem HX.next {w W W' : World} {tp ta : TypeId} {pb xb : Nat} {p0 p1 p2 p3 c0 c1 c2 c3 c4 c5 c6 c7 c8 c9 c10 c11 c12 : Value} (h : HX w tp ta pb xb p0 p1 p2 p3 c0 c1 c2 c3 c4 c5 c6 c7 c8 c9 c10 c11 c12 W) (hb : Below W.heap.size W W') : HX w tp ta pb xb p0 p1 p2 p3 c0 c1 c2 c3 c4 c5 c6 c7 c8 c9 c10 c11 c12 W' := hx_mk (h.p.next hb) (h.x.next hb)
theorem HX.drew {w W : World} {tp ta : TypeId} {pb xb : Nat} {p0 p1 p2 p3 c0 c1 c2 c3 c4 c5 c6 c7 c8 c9 c10 c11 c12 : Value} (h : HX w tp ta pb xb p0 p1 p2 p3 c0 c1 c2 c3 c4 c5 c6 c7 c8 c9 c10 c11 c12 W) : HX w tp ta pb xb p0 p1 p2 p3 c0 c1 c2 c3 c4 c5 c6 c7 c8 c9 c10 c11 c12 W.drew := h.next (Below.drew (Below.refl _ _))
/-! the steps of a walk through a region that draws its order -/
theorem tkH {P : Program} {ops : Array Oper} {Q : Exit → Go.Act → World → Prop} {md : Region.Mode} {S : World → Prop} {fuel : Nat} {l : Array Bool} {a : Go.Act} {w : World} (i : Nat) {oi : Oper} {v : Value} {a' : Go.Act} (hi : ops[i]? = some oi := by rfl)
    (hc : (Region.noSelect ops && (Region.free md ops l i && (Region.ready md ops l).contains i)) = true := by kernel_rfl) (hw : Region.wanted oi (yielded ops a.tmps) = true := by rfl)
    (hy : ∀ w, S w → (execOp a.eval oi).run P w = .ok (.value v) w := by (intro w hSw; (try dsimp only at hSw); (try simp only [HX] at hSw); go_simp; (try with_reducible rfl)))
    (hQ : ∀ c a w, Q (.panic c) (a.put oi.dst v) w → Q (.panic c) a w := by first | exact fun _ _ _ h => h | exact fun c a w h => HQ.out c _ _ _ w h) (hS : S w := by assumption)
    (ha : a.put oi.dst v = a' := by ((try simp only [Act.put, List.setIfInBounds_toArray, List.set_cons_zero, List.set_cons_succ, List.getElem_toArray, List.getElem_cons_succ, List.getElem_cons_zero]); rfl))
    (h : wpAnyH P md ops Q S fuel (l.setIfInBounds i true) a' w) : wpAnyH P md ops Q S (fuel + 1) l a w := by
  simp only [Bool.and_eq_true] at hc
  subst ha
  exact wpAnyH_take hi hc.1 hc.2.1 hc.2.2 hQ (Or.inl ⟨hw, hy⟩) hS h
theorem skH {P : Program} {ops : Array Oper} {Q : Exit → Go.Act → World → Prop} {md : Region.Mode} {S : World → Prop} {fuel : Nat} {l : Array Bool} {a : Go.Act} {w : World} (i : Nat) {oi : Oper} {a' : Go.Act} (hi : ops[i]? = some oi := by rfl)
    (hc : (Region.noSelect ops && (Region.free md ops l i && (Region.ready md ops l).contains i)) = true := by kernel_rfl) (hw : Region.wanted oi (yielded ops a.tmps) = false := by rfl)
    (hQ : ∀ c a w, Q (.panic c) (a.put oi.dst undef) w → Q (.panic c) a w := by first | exact fun _ _ _ h => h | exact fun c a w h => HQ.out c _ _ _ w h) (hS : S w := by assumption)
    (ha : a.put oi.dst undef = a' := by ((try simp only [Act.put, List.setIfInBounds_toArray, List.set_cons_zero, List.set_cons_succ, List.getElem_toArray, List.getElem_cons_succ, List.getElem_cons_zero]); rfl))
    (h : wpAnyH P md ops Q S fuel (l.setIfInBounds i true) a' w) : wpAnyH P md ops Q S (fuel + 1) l a w := by
  simp only [Bool.and_eq_true] at hc
  subst ha
  exact wpAnyH_take hi hc.1 hc.2.1 hc.2.2 hQ (Or.inr ⟨hw, rfl⟩) hS h
def lets : List UInt8 := [119, 109, 120, 98, 110, 115, 100, 116, 107, 105, 114, 112]
end Go.Proofs.YtpdinahdcedmkaaDoor.Ext
