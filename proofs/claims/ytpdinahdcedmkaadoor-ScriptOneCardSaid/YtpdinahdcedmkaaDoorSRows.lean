import Derived.Test.YtpdinahdcedmkaaDoorMUnq
import Derived.Deep.WholeRow
import Derived.Great.BuildSlice
/- script.rows, at, Has, Name, has: an act's name and its letters. -/
namespace Go.Proofs.YtpdinahdcedmkaaDoor.Ext
set_option linter.unusedVariables false
open Go.RowKit Go.Proofs.YtpdinahdcedmkaaDoorW.PrintWords Go.Proofs.YtpdinahdcedmkaaDoorW.PrintLast Go.Proofs.YtpdinahdcedmkaaDoorW.PrintMore

def rowTab : List (ByteArray × ByteArray) := [(⟨#[]⟩, ⟨#[]⟩), (⟨#[101, 110, 114, 111, 108]⟩, ⟨#[100, 119]⟩), (⟨#[103, 101, 110, 107, 101, 121]⟩, ⟨#[100, 115]⟩), (⟨#[115, 105, 103, 110]⟩, ⟨#[100, 107, 109]⟩), (⟨#[116, 114, 97, 110, 115, 102, 101, 114]⟩, ⟨#[100, 107, 116, 114]⟩), (⟨#[115, 112, 108, 105, 116]⟩, ⟨#[100, 107, 116, 98]⟩), (⟨#[97, 98, 111, 114, 116]⟩, ⟨#[100, 105]⟩), (⟨#[100, 101, 115, 116, 114, 111, 121]⟩, ⟨#[100, 105]⟩), (⟨#[114, 101, 115, 117, 109, 101]⟩, ⟨#[100, 105]⟩), (⟨#[114, 101, 116, 105, 114, 101]⟩, ⟨#[100, 107]⟩), (⟨#[99, 104, 101, 99, 107]⟩, ⟨#[100]⟩), (⟨#[100, 101, 108, 105, 118, 101, 114]⟩, ⟨#[110]⟩), (⟨#[100, 114, 111, 112]⟩, ⟨#[110]⟩), (⟨#[100, 111, 117, 98, 108, 101]⟩, ⟨#[110]⟩), (⟨#[105, 110, 106, 101, 99, 116]⟩, ⟨#[100, 120]⟩), (⟨#[102, 117, 115, 101]⟩, ⟨#[100, 110]⟩), (⟨#[99, 114, 97, 115, 104]⟩, ⟨#[100, 112]⟩), (⟨#[98, 111, 111, 116]⟩, ⟨#[100, 119]⟩)]
def rowC : Array Value := #[.string ⟨#[]⟩, .string ⟨#[]⟩, .string ⟨#[101, 110, 114, 111, 108]⟩, .string ⟨#[100, 119]⟩, .string ⟨#[103, 101, 110, 107, 101, 121]⟩, .string ⟨#[100, 115]⟩, .string ⟨#[115, 105, 103, 110]⟩, .string ⟨#[100, 107, 109]⟩, .string ⟨#[116, 114, 97, 110, 115, 102, 101, 114]⟩, .string ⟨#[100, 107, 116, 114]⟩, .string ⟨#[115, 112, 108, 105, 116]⟩, .string ⟨#[100, 107, 116, 98]⟩, .string ⟨#[97, 98, 111, 114, 116]⟩, .string ⟨#[100, 105]⟩, .string ⟨#[100, 101, 115, 116, 114, 111, 121]⟩, .string ⟨#[100, 105]⟩, .string ⟨#[114, 101, 115, 117, 109, 101]⟩, .string ⟨#[100, 105]⟩, .string ⟨#[114, 101, 116, 105, 114, 101]⟩, .string ⟨#[100, 107]⟩, .string ⟨#[99, 104, 101, 99, 107]⟩, .string ⟨#[100]⟩, .string ⟨#[100, 101, 108, 105, 118, 101, 114]⟩, .string ⟨#[110]⟩, .string ⟨#[100, 114, 111, 112]⟩, .string ⟨#[110]⟩, .string ⟨#[100, 111, 117, 98, 108, 101]⟩, .string ⟨#[110]⟩, .string ⟨#[105, 110, 106, 101, 99, 116]⟩, .string ⟨#[100, 120]⟩, .string ⟨#[102, 117, 115, 101]⟩, .string ⟨#[100, 110]⟩, .string ⟨#[99, 114, 97, 115, 104]⟩, .string ⟨#[100, 112]⟩, .string ⟨#[98, 111, 111, 116]⟩, .string ⟨#[100, 119]⟩]
theorem krow {W v : World} {b : Nat} {o : Obj} (h : W.heap[b]? = some o) (hb : Below W.heap.size W v) : v.heap[b]? = some o := (hb.block b (Array.getElem?_eq_some_iff.1 h).1).trans h
theorem knew {W : World} {b : Nat} {o o' : Obj} (h : W.heap[b]? = some o) : (W.alloc o').heap[b]? = some o := (Below.heap_alloc W o' b (Array.getElem?_eq_some_iff.1 h).1).trans h
theorem results_cell {fn : Func} {a : Tmp} {t : TypeId} (h : fn.results = #[.cell a t]) (tmps : Array Value) (P : Program) (w : World) (g : Nat) (hp : tmps.getD a undef = .pointer (some ⟨g, 0, none⟩)) (v : Value) (hl : (loadVar t ⟨g, 0, none⟩).run P w = .ok v w) : (results fn tmps).run P w = .ok v w := by
  rw [Array.getD_eq_getD_getElem?] at hp
  simp [results, h, hp, hl, asAddr]
theorem rowC_info : (Tryd.prog.info? 59).map (·.size) = some rowC.size := by kernel_rfl
theorem rowC_one : rowC.all (·.oneCell') = true := by decide +kernel
theorem rows_store (w : World) (c : Array Value) (h : c.size = rowC.size) : (storeCells ⟨w.heap.size, 0, none⟩ rowC.toList).run Tryd.prog (w.alloc (.cells c 59)) = .ok () (w.alloc (.cells rowC 59)) :=
  run_storeCells_new (P := Tryd.prog) w 59 c rowC rowC_info h rowC_one
set_option maxHeartbeats 2000000 in
set_option maxRecDepth 100000 in
theorem c_rows (w : World) : Calls Tryd.prog 26 #[] w fun e w' => e = .returned (.agg rowC) ∧ Below w.heap.size w w' := by
  have hst := fun w => rows_store w #[.string ⟨#[]⟩, .string ⟨#[]⟩, .string ⟨#[]⟩, .string ⟨#[]⟩, .string ⟨#[]⟩, .string ⟨#[]⟩, .string ⟨#[]⟩, .string ⟨#[]⟩, .string ⟨#[]⟩, .string ⟨#[]⟩, .string ⟨#[]⟩, .string ⟨#[]⟩, .string ⟨#[]⟩, .string ⟨#[]⟩, .string ⟨#[]⟩, .string ⟨#[]⟩, .string ⟨#[]⟩, .string ⟨#[]⟩, .string ⟨#[]⟩, .string ⟨#[]⟩, .string ⟨#[]⟩, .string ⟨#[]⟩, .string ⟨#[]⟩, .string ⟨#[]⟩, .string ⟨#[]⟩, .string ⟨#[]⟩, .string ⟨#[]⟩, .string ⟨#[]⟩, .string ⟨#[]⟩, .string ⟨#[]⟩, .string ⟨#[]⟩, .string ⟨#[]⟩, .string ⟨#[]⟩, .string ⟨#[]⟩, .string ⟨#[]⟩, .string ⟨#[]⟩] rfl
  go_enter Tryd.func26, Tryd.ntmps26
  go_wp2_with (first
    | ((with_reducible refine gate_dst (N := 19) rfl ?_)
       refine wpList_buildTo rfl 59 _ rfl (some 19) rfl rowC (by as_aux_lemma => kernel_rfl) ?_)
    | fail)
  exact bodyPost_ret (v := .agg rowC) (results_cell Tryd.results26 _ _ _ w.heap.size rfl _ (run_loadVar_new w 59 rowC 18 54 Tryd.underlying59 rowC_info)) rfl ⟨rfl, below_new _ _⟩

def rowOf (d : Int) : ByteArray × ByteArray := if 0 ≤ d ∧ d < 18 then rowTab.getD d.toNat (⟨#[]⟩, ⟨#[]⟩) else (⟨#[]⟩, ⟨#[]⟩)
theorem rowC_at (i : Nat) (h : i < 18) : rowC[i * 2]? = some (.string (rowTab.getD i (⟨#[]⟩, ⟨#[]⟩)).1) ∧ rowC[i * 2 + 1]? = some (.string (rowTab.getD i (⟨#[]⟩, ⟨#[]⟩)).2) := by
  obtain rfl | rfl | rfl | rfl | rfl | rfl | rfl | rfl | rfl | rfl | rfl | rfl | rfl | rfl | rfl | rfl | rfl | rfl : i = 0 ∨ i = 1 ∨ i = 2 ∨ i = 3 ∨ i = 4 ∨ i = 5 ∨ i = 6 ∨ i = 7 ∨ i = 8 ∨ i = 9 ∨ i = 10 ∨ i = 11 ∨ i = 12 ∨ i = 13 ∨ i = 14 ∨ i = 15 ∨ i = 16 ∨ i = 17 := by omega
  all_goals exact ⟨rfl, rfl⟩
set_option maxHeartbeats 2000000 in
set_option maxRecDepth 100000 in
theorem c_at (d : Int) (w : World) : Calls Tryd.prog 21 #[.int .i64 d] w fun e w' => e = .returned (.agg #[.string (rowOf d).1, .string (rowOf d).2]) ∧ Below w.heap.size w w' := by
  have hst := fun w => rows_store w #[.string ⟨#[]⟩, .string ⟨#[]⟩, .string ⟨#[]⟩, .string ⟨#[]⟩, .string ⟨#[]⟩, .string ⟨#[]⟩, .string ⟨#[]⟩, .string ⟨#[]⟩, .string ⟨#[]⟩, .string ⟨#[]⟩, .string ⟨#[]⟩, .string ⟨#[]⟩, .string ⟨#[]⟩, .string ⟨#[]⟩, .string ⟨#[]⟩, .string ⟨#[]⟩, .string ⟨#[]⟩, .string ⟨#[]⟩, .string ⟨#[]⟩, .string ⟨#[]⟩, .string ⟨#[]⟩, .string ⟨#[]⟩, .string ⟨#[]⟩, .string ⟨#[]⟩, .string ⟨#[]⟩, .string ⟨#[]⟩, .string ⟨#[]⟩, .string ⟨#[]⟩, .string ⟨#[]⟩, .string ⟨#[]⟩, .string ⟨#[]⟩, .string ⟨#[]⟩, .string ⟨#[]⟩, .string ⟨#[]⟩, .string ⟨#[]⟩, .string ⟨#[]⟩] rfl
  have cr := Lib.hid c_rows
  by_cases hd : 0 ≤ d ∧ d < 18
  · obtain ⟨x1, x2⟩ := rowC_at d.toNat (by omega)
    rw [show rowOf d = rowTab.getD d.toNat (⟨#[]⟩, ⟨#[]⟩) by unfold rowOf; rw [if_pos hd]]
    generalize rowTab.getD d.toNat (⟨#[]⟩, ⟨#[]⟩) = xy at *
    obtain ⟨x, y⟩ := xy
    simp only at x1 x2
    have h1 := hd.1
    have h2 := hd.2
    have t1 : decide (d < 0) = false := decide_eq_false (by omega)
    have t2 : decide (18 ≤ d) = false := decide_eq_false (by omega)
    clear hd
    go_enter Tryd.func21, Tryd.ntmps21
    go_wp2_with (first
      | (go_at_call 26
         refine (cr.out _).mono ?_
         rintro e v ⟨rfl, hb⟩
         have HR := Aside0.mk (krow (heap_alloc_new w (.cells #[.string ⟨#[]⟩, .string ⟨#[]⟩] 54)) hb)
         have HR2 := Aside0.mk (knew (o' := .cells rowC 59) HR.out)
         have HR3 := Aside0.mk (blk_set HR2.out 0 (.string x))
         have HR4 := Aside0.mk (blk_set HR3.out 1 (.string y))
         have ca : (v.alloc (.cells rowC 59)).cell? ⟨w.heap.size, 0, none⟩ = some (.string ⟨#[]⟩) := blk_cell HR2.out 0
         have fa : (v.alloc (.cells rowC 59)).frozen? ⟨w.heap.size, 0, none⟩ = false := blk_free HR2.out 0
         have cb : ((v.alloc (.cells rowC 59)).setCell ⟨w.heap.size, 0, none⟩ (.string x)).cell? ⟨w.heap.size, 1, none⟩ = some (.string ⟨#[]⟩) := blk_cell HR3.out 1
         have fb : ((v.alloc (.cells rowC 59)).setCell ⟨w.heap.size, 0, none⟩ (.string x)).frozen? ⟨w.heap.size, 1, none⟩ = false := blk_free HR3.out 1
         have HBv := Aside0.mk (((((Below.refl w.heap.size w).alloc (Nat.le_refl _) (.cells #[.string ⟨#[]⟩, .string ⟨#[]⟩] 54)).trans (hb.mono (by simp))).alloc (by have := hb.size; simp at this; omega) (.cells rowC 59)))
         clear hb)
      | fail)
    exact bodyPost_ret (v := .agg #[.string x, .string y]) (results_cell Tryd.results21 _ _ _ w.heap.size rfl _ (run_loadVar_row _ w.heap.size 54 54 _ (0, 0) _ HR4.out Tryd.underlying54 rfl (by kernel_rfl))) rfl ⟨rfl, (HBv.out.setCell (Nat.le_refl _) _).setCell (Nat.le_refl _) _⟩
  · rw [show rowOf d = (⟨#[]⟩, ⟨#[]⟩) by unfold rowOf; rw [if_neg hd]]
    by_cases h1 : d < 0
    · have t1 : decide (d < 0) = true := decide_eq_true h1
      clear hd h1
      go_enter Tryd.func21, Tryd.ntmps21
      go_wp2_with (first
        | (go_at_call 26
           refine (cr.out _).mono ?_
           rintro e v ⟨rfl, hb⟩
           have HR := Aside0.mk (krow (heap_alloc_new w (.cells #[.string ⟨#[]⟩, .string ⟨#[]⟩] 54)) hb)
           have HR2 := Aside0.mk (knew (o' := .cells rowC 59) HR.out)
           have HR3 := Aside0.mk (blk_set HR2.out 0 (.string ⟨#[]⟩))
           have HR4 := Aside0.mk (blk_set HR3.out 1 (.string ⟨#[]⟩))
           have ca : (v.alloc (.cells rowC 59)).cell? ⟨w.heap.size, 0, none⟩ = some (.string ⟨#[]⟩) := blk_cell HR2.out 0
           have fa : (v.alloc (.cells rowC 59)).frozen? ⟨w.heap.size, 0, none⟩ = false := blk_free HR2.out 0
           have cb : ((v.alloc (.cells rowC 59)).setCell ⟨w.heap.size, 0, none⟩ (.string ⟨#[]⟩)).cell? ⟨w.heap.size, 1, none⟩ = some (.string ⟨#[]⟩) := blk_cell HR3.out 1
           have fb : ((v.alloc (.cells rowC 59)).setCell ⟨w.heap.size, 0, none⟩ (.string ⟨#[]⟩)).frozen? ⟨w.heap.size, 1, none⟩ = false := blk_free HR3.out 1
           have HBv := Aside0.mk (((((Below.refl w.heap.size w).alloc (Nat.le_refl _) (.cells #[.string ⟨#[]⟩, .string ⟨#[]⟩] 54)).trans (hb.mono (by simp))).alloc (by have := hb.size; simp at this; omega) (.cells rowC 59)))
           clear hb)
        | fail)
      exact bodyPost_ret (v := .agg #[.string ⟨#[]⟩, .string ⟨#[]⟩]) (results_cell Tryd.results21 _ _ _ w.heap.size rfl _ (run_loadVar_row _ w.heap.size 54 54 _ (0, 0) _ HR4.out Tryd.underlying54 rfl (by kernel_rfl))) rfl ⟨rfl, (HBv.out.setCell (Nat.le_refl _) _).setCell (Nat.le_refl _) _⟩
    · have t1 : decide (d < 0) = false := decide_eq_false h1
      have t2 : decide (18 ≤ d) = true := decide_eq_true (by omega)
      clear hd h1
      go_enter Tryd.func21, Tryd.ntmps21
      go_wp2_with (first
        | (go_at_call 26
           refine (cr.out _).mono ?_
           rintro e v ⟨rfl, hb⟩
           have HR := Aside0.mk (krow (heap_alloc_new w (.cells #[.string ⟨#[]⟩, .string ⟨#[]⟩] 54)) hb)
           have HR2 := Aside0.mk (knew (o' := .cells rowC 59) HR.out)
           have HR3 := Aside0.mk (blk_set HR2.out 0 (.string ⟨#[]⟩))
           have HR4 := Aside0.mk (blk_set HR3.out 1 (.string ⟨#[]⟩))
           have ca : (v.alloc (.cells rowC 59)).cell? ⟨w.heap.size, 0, none⟩ = some (.string ⟨#[]⟩) := blk_cell HR2.out 0
           have fa : (v.alloc (.cells rowC 59)).frozen? ⟨w.heap.size, 0, none⟩ = false := blk_free HR2.out 0
           have cb : ((v.alloc (.cells rowC 59)).setCell ⟨w.heap.size, 0, none⟩ (.string ⟨#[]⟩)).cell? ⟨w.heap.size, 1, none⟩ = some (.string ⟨#[]⟩) := blk_cell HR3.out 1
           have fb : ((v.alloc (.cells rowC 59)).setCell ⟨w.heap.size, 0, none⟩ (.string ⟨#[]⟩)).frozen? ⟨w.heap.size, 1, none⟩ = false := blk_free HR3.out 1
           have HBv := Aside0.mk (((((Below.refl w.heap.size w).alloc (Nat.le_refl _) (.cells #[.string ⟨#[]⟩, .string ⟨#[]⟩] 54)).trans (hb.mono (by simp))).alloc (by have := hb.size; simp at this; omega) (.cells rowC 59)))
           clear hb)
        | fail)
      exact bodyPost_ret (v := .agg #[.string ⟨#[]⟩, .string ⟨#[]⟩]) (results_cell Tryd.results21 _ _ _ w.heap.size rfl _ (run_loadVar_row _ w.heap.size 54 54 _ (0, 0) _ HR4.out Tryd.underlying54 rfl (by kernel_rfl))) rfl ⟨rfl, (HBv.out.setCell (Nat.le_refl _) _).setCell (Nat.le_refl _) _⟩

theorem fld0 (a b : ByteArray) (W : World) : (Instr.field 54 (.agg #[.string a, .string b]) 0).run Tryd.prog W = .ok (.string a) W := by kernel_rfl
theorem fld1 (a b : ByteArray) (W : World) : (Instr.field 54 (.agg #[.string a, .string b]) 1).run Tryd.prog W = .ok (.string b) W := by kernel_rfl
set_option maxHeartbeats 1000000 in
set_option maxRecDepth 100000 in
theorem c_Has (d : Int) (w : World) : Calls Tryd.prog 8 #[.int .i64 d] w fun e w' => e = .returned (.string (rowOf d).2) ∧ Below w.heap.size w w' := by
  have ca := Lib.hid (c_at d)
  generalize rowOf d = xy at *
  have q0 := fld0 xy.1 xy.2
  have q1 := fld1 xy.1 xy.2
  go_enter Tryd.func8, Tryd.ntmps8
  go_wp2_with (first | (go_at_call 21; refine (ca.out _).mono ?_; rintro e v ⟨rfl, hb⟩) | fail)
  go_ret
  exact ⟨rfl, hb⟩
set_option maxHeartbeats 1000000 in
set_option maxRecDepth 100000 in
theorem c_SName (d : Int) (w : World) : Calls Tryd.prog 10 #[.int .i64 d] w fun e w' => e = .returned (.string (rowOf d).1) ∧ Below w.heap.size w w' := by
  have ca := Lib.hid (c_at d)
  generalize rowOf d = xy at *
  have q0 := fld0 xy.1 xy.2
  have q1 := fld1 xy.1 xy.2
  go_enter Tryd.func10, Tryd.ntmps10
  go_wp2_with (first | (go_at_call 21; refine (ca.out _).mono ?_; rintro e v ⟨rfl, hb⟩) | fail)
  go_ret
  exact ⟨rfl, hb⟩
/-- has an act a letter -/
def hasS (d : Int) (c : UInt8) : Bool := decide (0 ≤ Lib.indexByte (rowOf d).2.data.toList c)
set_option maxHeartbeats 1000000 in
theorem c_has (d : Int) (c : UInt8) (w : World) : Calls Tryd.prog 46 #[.int .i64 d, .string ⟨#[c]⟩] w fun e w' => e = .returned (.bool (hasS d c)) ∧ Below w.heap.size w w' := by
  have ca := Lib.hid (c_Has d)
  have cc := Lib.hid (fun W => Tryd.strings_Contains_one (rowOf d).2 c W)
  unfold hasS
  generalize (rowOf d).2 = s at *
  go_enter Tryd.func46, Tryd.ntmps46
  go_wp2_with (first
    | (go_at_call 8; refine (ca.out _).mono ?_; rintro e v ⟨rfl, hb⟩)
    | (go_at_call 65; refine (cc.out _).mono ?_; rintro e v ⟨rfl, rfl⟩)
    | fail)
  go_ret
  exact ⟨rfl, hb⟩
def script_Name.f (a0 : Int) : Option ByteArray := some (rowOf a0).1
theorem script_Name.calls (a0 : Int) (r : ByteArray) (w : World) (h : script_Name.f a0 = some r) : Calls Tryd.prog 10 #[.int .i64 a0] w fun e w' => e = .returned (.string r) ∧ Below w.heap.size w w' := by
  obtain rfl := Option.some.inj h
  exact c_SName a0 w
def octet_Label.f (a0 : ByteArray) : Option Bool := if a0.size ≤ 140737488351232 then some (labelS a0) else none
theorem octet_Label.calls (a0 : ByteArray) (r : Bool) (w : World) (h : octet_Label.f a0 = some r) : Calls Tryd.prog 32 #[.string a0] w fun e w' => e = .returned (.bool r) ∧ Below w.heap.size w w' := by
  unfold octet_Label.f at h
  by_cases h0 : a0.size ≤ 140737488351232
  · rw [if_pos h0] at h
    obtain rfl := Option.some.inj h
    exact label_walk a0 w h0
  · rw [if_neg h0] at h; cases h
def octet_Number.f (a0 : ByteArray) : Option (Int × Int) := if a0.size ≤ 140737488351232 then some (numS a0) else none
theorem octet_Number.calls (a0 : ByteArray) (r1 r2 : Int) (w : World) (h : octet_Number.f a0 = some (r1, r2)) : Calls Tryd.prog 59 #[.string a0] w fun e w' => e = .returned (.tuple #[.int .u64 r1, .int .i64 r2]) ∧ Below w.heap.size w w' := by
  unfold octet_Number.f at h
  by_cases h0 : a0.size ≤ 140737488351232
  · rw [if_pos h0] at h
    have e := Option.some.inj h
    have := number_walk a0 w h0
    rw [e] at this
    exact this
  · rw [if_neg h0] at h; cases h
end Go.Proofs.YtpdinahdcedmkaaDoor.Ext

