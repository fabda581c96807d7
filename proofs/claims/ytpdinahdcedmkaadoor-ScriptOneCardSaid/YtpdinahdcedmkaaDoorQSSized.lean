import Derived.Test.YtpdinahdcedmkaaDoorQ0
import Derived.Test.YtpdinahdcedmkaaDoorMHead
/- script.sized: may an act's bytes, marks and number be, of any act. -/
namespace Go.Proofs.YtpdinahdcedmkaaDoor.ExtQ
open Go.Proofs.YtpdinahdcedmkaaDoor.Ext
open Go.Proofs.YtpdinahdcedmkaaDoor.Q
set_option linter.unusedVariables false
set_option linter.unusedSimpArgs false
open Go.RowKit Go.Proofs.YtpdinahdcedmkaaDoorW.PrintLast Go.Proofs.YtpdinahdcedmkaaDoorW.PrintMore
open Go.Proofs.YtpdinahdcedmkaaDoorW.PrintWords hiding blk_cell blk_set nums_append

def lowS (d : Int) : Int := if hasS d 119 = true then 32 else if hasS d 109 = true then 0 else if hasS d 120 = true then 1 else 0
def highS (d : Int) : Int := if hasS d 119 = true then 64 else if hasS d 109 = true then 1000 else if hasS d 120 = true then 16384 else 0
def mostS (d : Int) : Int := if hasS d 98 = true then 60 else if hasS d 110 = true then 1073741824 else 0
def picksS (d : Int) : Int := if hasS d 112 = true then 600 else 0
def sizeB (lo hi mo pi : Int) (n nn k : Int) : Bool := decide (lo ≤ n) && (decide (n ≤ hi) && (decide (0 ≤ nn) && (decide (nn ≤ mo) && decide (k ≤ pi))))
def sizedS (d : Int) (n nn k : Int) : Bool := sizeB (lowS d) (highS d) (mostS d) (picksS d) n nn k
theorem sizeB_1 {lo hi mo pi n nn k : Int} (h : ¬ lo ≤ n) : sizeB lo hi mo pi n nn k = false := by unfold sizeB; rw [decide_eq_false h]; rfl
theorem sizeB_2 {lo hi mo pi n nn k : Int} (h : ¬ n ≤ hi) : sizeB lo hi mo pi n nn k = false := by unfold sizeB; rw [decide_eq_false h]; simp
theorem sizeB_3 {lo hi mo pi n nn k : Int} (h : ¬ 0 ≤ nn) : sizeB lo hi mo pi n nn k = false := by unfold sizeB; rw [decide_eq_false h]; simp
theorem sizeB_4 {lo hi mo pi n nn k : Int} (h : ¬ nn ≤ mo) : sizeB lo hi mo pi n nn k = false := by unfold sizeB; rw [decide_eq_false h]; simp
theorem sizeB_5 {lo hi mo pi n nn k : Int} (h : ¬ k ≤ pi) : sizeB lo hi mo pi n nn k = false := by unfold sizeB; rw [decide_eq_false h]; simp
theorem sizeB_6 {lo hi mo pi n nn k : Int} (h1 : lo ≤ n) (h2 : n ≤ hi) (h3 : 0 ≤ nn) (h4 : nn ≤ mo) (h5 : k ≤ pi) : sizeB lo hi mo pi n nn k = true := by unfold sizeB; rw [decide_eq_true h1, decide_eq_true h2, decide_eq_true h3, decide_eq_true h4, decide_eq_true h5]; rfl
theorem sizeB_7 {lo hi mo pi n nn k : Int} (h1 : lo ≤ n) (h2 : n ≤ hi) (h3 : 0 ≤ nn) (h4 : nn ≤ mo) : sizeB lo hi mo pi n nn k = decide (k ≤ pi) := by unfold sizeB; rw [decide_eq_true h1, decide_eq_true h2, decide_eq_true h3, decide_eq_true h4]; rfl
theorem sizeB_8 {lo hi mo n nn : Int} {k : Nat} (h1 : lo ≤ n) (h2 : n ≤ hi) (h3 : 0 ≤ nn) (h4 : nn ≤ mo) : sizeB lo hi mo 0 n nn k = decide (k = 0) := by rw [sizeB_7 h1 h2 h3 h4]; by_cases h : k = 0 <;> simp [h] <;> omega
/-- the letters that tell an act's sizes -/
def clsS (d : Int) : List Bool := [hasS d 119, hasS d 109, hasS d 120, hasS d 98, hasS d 110, hasS d 112]
theorem cls_any (d : Int) : clsS d ∈ [[true, false, false, false, false, false], [false, true, false, false, false, false], [false, false, true, false, false, false], [false, false, false, true, false, false], [false, false, false, false, true, false], [false, false, false, false, false, true], [false, false, false, false, false, false]] := by
  by_cases h : 0 ≤ d ∧ d < 18
  · obtain ⟨n, rfl⟩ := Int.eq_ofNat_of_zero_le h.1
    have : ∀ n : Fin 18, clsS ((n.val : Nat) : Int) ∈ [[true, false, false, false, false, false], [false, true, false, false, false, false], [false, false, true, false, false, false], [false, false, false, true, false, false], [false, false, false, false, true, false], [false, false, false, false, false, true], [false, false, false, false, false, false]] := by decide +kernel
    exact this ⟨n, by omega⟩
  · have e : ∀ c, hasS d c = hasS 0 c := fun c => by unfold hasS rowOf; rw [if_neg h, if_pos ⟨by omega, by omega⟩]; rfl
    unfold clsS
    rw [e, e, e, e, e, e]
    decide +kernel
set_option maxHeartbeats 4000000 in
set_option maxRecDepth 100000 in
theorem sized_w (d a1 a2 a3 a5 a6 a7 a8 a9 nn : Int) (A4 A11 A12 : Option Addr) (n4 c4 n11 c11 n12 c12 : Nat) (w : World) (hw : hasS d 119 = true) (hm : hasS d 109 = false) (hx : hasS d 120 = false) (hb : hasS d 98 = false) (hn : hasS d 110 = false) (hp : hasS d 112 = false) :
    Calls Tryd.prog 35 #[.agg #[.int .i64 d, .int .i64 a1, .int .i64 a2, .int .i64 a3, .slice A4 n4 c4, .int .u32 a5, .int .u32 a6, .int .u32 a7, .int .u64 a8, .int .u64 a9, .int .i64 nn, .slice A11 n11 c11, .slice A12 n12 c12]] w fun e w' => e = .returned (.bool (sizeB 32 64 0 0 n11 nn n12)) ∧ Below w.heap.size w w' := by
  have cw := Lib.hid (has_t hw)
  have cm := Lib.hid (has_f hm)
  have cx := Lib.hid (has_f hx)
  have cb := Lib.hid (has_f hb)
  have cn := Lib.hid (has_f hn)
  have cp := Lib.hid (has_f hp)
  clear hw hm hx hb hn hp
  go_enter Tryd.func35, Tryd.ntmps35
  have HR0 := Aside0.mk (heap_alloc_new w (.cells #[.int .i64 d, .int .i64 a1, .int .i64 a2, .int .i64 a3, .slice A4 n4 c4, .int .u32 a5, .int .u32 a6, .int .u32 a7, .int .u64 a8, .int .u64 a9, .int .i64 nn, .slice A11 n11 c11, .slice A12 n12 c12] 42))
  have HB0 := Aside0.mk ((Below.refl w.heap.size w).alloc (Nat.le_refl _) (.cells #[.int .i64 d, .int .i64 a1, .int .i64 a2, .int .i64 a3, .slice A4 n4 c4, .int .u32 a5, .int .u32 a6, .int .u32 a7, .int .u64 a8, .int .u64 a9, .int .i64 nn, .slice A11 n11 c11, .slice A12 n12 c12] 42))
  go_wp2_with (first
    | (go_at_call 46
       with_reducible refine (cw.out _).mono ?_
       rintro e v1 ⟨rfl, hbz⟩
       have HRv1 := Aside0.mk (krow HR0.out hbz)
       have HBv1 := Aside0.mk (HB0.out.trans (hbz.mono HB0.out.size))
       clear hbz
       have q0_v1 : v1.cell? ⟨w.heap.size, 0, none⟩ = some (.int .i64 d) := blk_cell HRv1.out 0
       have q10_v1 : v1.cell? ⟨w.heap.size, 10, none⟩ = some (.int .i64 nn) := blk_cell HRv1.out 10
       have q11_v1 : v1.cell? ⟨w.heap.size, 11, none⟩ = some (.slice A11 n11 c11) := blk_cell HRv1.out 11
       have q12_v1 : v1.cell? ⟨w.heap.size, 12, none⟩ = some (.slice A12 n12 c12) := blk_cell HRv1.out 12)
    | (go_at_call 46
       with_reducible refine (cb.out _).mono ?_
       rintro e v2 ⟨rfl, hbz⟩
       have HRv2 := Aside0.mk (krow HRv1.out hbz)
       have HBv2 := Aside0.mk (HBv1.out.trans (hbz.mono HBv1.out.size))
       clear hbz
       have q0_v2 : v2.cell? ⟨w.heap.size, 0, none⟩ = some (.int .i64 d) := blk_cell HRv2.out 0
       have q10_v2 : v2.cell? ⟨w.heap.size, 10, none⟩ = some (.int .i64 nn) := blk_cell HRv2.out 10
       have q11_v2 : v2.cell? ⟨w.heap.size, 11, none⟩ = some (.slice A11 n11 c11) := blk_cell HRv2.out 11
       have q12_v2 : v2.cell? ⟨w.heap.size, 12, none⟩ = some (.slice A12 n12 c12) := blk_cell HRv2.out 12)
    | (go_at_call 46
       with_reducible refine (cn.out _).mono ?_
       rintro e v3 ⟨rfl, hbz⟩
       have HRv3 := Aside0.mk (krow HRv2.out hbz)
       have HBv3 := Aside0.mk (HBv2.out.trans (hbz.mono HBv2.out.size))
       clear hbz
       have q0_v3 : v3.cell? ⟨w.heap.size, 0, none⟩ = some (.int .i64 d) := blk_cell HRv3.out 0
       have q10_v3 : v3.cell? ⟨w.heap.size, 10, none⟩ = some (.int .i64 nn) := blk_cell HRv3.out 10
       have q11_v3 : v3.cell? ⟨w.heap.size, 11, none⟩ = some (.slice A11 n11 c11) := blk_cell HRv3.out 11
       have q12_v3 : v3.cell? ⟨w.heap.size, 12, none⟩ = some (.slice A12 n12 c12) := blk_cell HRv3.out 12)
    | (go_at_call 46
       with_reducible refine (cp.out _).mono ?_
       rintro e v4 ⟨rfl, hbz⟩
       have HRv4 := Aside0.mk (krow HRv3.out hbz)
       have HBv4 := Aside0.mk (HBv3.out.trans (hbz.mono HBv3.out.size))
       clear hbz
       have q0_v4 : v4.cell? ⟨w.heap.size, 0, none⟩ = some (.int .i64 d) := blk_cell HRv4.out 0
       have q10_v4 : v4.cell? ⟨w.heap.size, 10, none⟩ = some (.int .i64 nn) := blk_cell HRv4.out 10
       have q11_v4 : v4.cell? ⟨w.heap.size, 11, none⟩ = some (.slice A11 n11 c11) := blk_cell HRv4.out 11
       have q12_v4 : v4.cell? ⟨w.heap.size, 12, none⟩ = some (.slice A12 n12 c12) := blk_cell HRv4.out 12)
    | fail)
  all_goals
    go_ret
    refine ⟨ret_bool ?_, HBv4.out⟩
    first
      | (refine (sizeB_7 ?_ ?_ ?_ ?_).symm <;> omega)
      | (refine (sizeB_8 ?_ ?_ ?_ ?_).symm <;> omega)
      | (refine (sizeB_6 ?_ ?_ ?_ ?_ ?_).symm <;> omega)
      | (refine (sizeB_1 ?_).symm; omega)
      | (refine (sizeB_2 ?_).symm; omega)
      | (refine (sizeB_3 ?_).symm; omega)
      | (refine (sizeB_4 ?_).symm; omega)
      | (refine (sizeB_5 ?_).symm; omega)
set_option maxHeartbeats 4000000 in
set_option maxRecDepth 100000 in
theorem sized_m (d a1 a2 a3 a5 a6 a7 a8 a9 nn : Int) (A4 A11 A12 : Option Addr) (n4 c4 n11 c11 n12 c12 : Nat) (w : World) (hw : hasS d 119 = false) (hm : hasS d 109 = true) (hx : hasS d 120 = false) (hb : hasS d 98 = false) (hn : hasS d 110 = false) (hp : hasS d 112 = false) :
    Calls Tryd.prog 35 #[.agg #[.int .i64 d, .int .i64 a1, .int .i64 a2, .int .i64 a3, .slice A4 n4 c4, .int .u32 a5, .int .u32 a6, .int .u32 a7, .int .u64 a8, .int .u64 a9, .int .i64 nn, .slice A11 n11 c11, .slice A12 n12 c12]] w fun e w' => e = .returned (.bool (sizeB 0 1000 0 0 n11 nn n12)) ∧ Below w.heap.size w w' := by
  have cw := Lib.hid (has_f hw)
  have cm := Lib.hid (has_t hm)
  have cx := Lib.hid (has_f hx)
  have cb := Lib.hid (has_f hb)
  have cn := Lib.hid (has_f hn)
  have cp := Lib.hid (has_f hp)
  clear hw hm hx hb hn hp
  go_enter Tryd.func35, Tryd.ntmps35
  have HR0 := Aside0.mk (heap_alloc_new w (.cells #[.int .i64 d, .int .i64 a1, .int .i64 a2, .int .i64 a3, .slice A4 n4 c4, .int .u32 a5, .int .u32 a6, .int .u32 a7, .int .u64 a8, .int .u64 a9, .int .i64 nn, .slice A11 n11 c11, .slice A12 n12 c12] 42))
  have HB0 := Aside0.mk ((Below.refl w.heap.size w).alloc (Nat.le_refl _) (.cells #[.int .i64 d, .int .i64 a1, .int .i64 a2, .int .i64 a3, .slice A4 n4 c4, .int .u32 a5, .int .u32 a6, .int .u32 a7, .int .u64 a8, .int .u64 a9, .int .i64 nn, .slice A11 n11 c11, .slice A12 n12 c12] 42))
  go_wp2_with (first
    | (go_at_call 46
       with_reducible refine (cw.out _).mono ?_
       rintro e v1 ⟨rfl, hbz⟩
       have HRv1 := Aside0.mk (krow HR0.out hbz)
       have HBv1 := Aside0.mk (HB0.out.trans (hbz.mono HB0.out.size))
       clear hbz
       have q0_v1 : v1.cell? ⟨w.heap.size, 0, none⟩ = some (.int .i64 d) := blk_cell HRv1.out 0
       have q10_v1 : v1.cell? ⟨w.heap.size, 10, none⟩ = some (.int .i64 nn) := blk_cell HRv1.out 10
       have q11_v1 : v1.cell? ⟨w.heap.size, 11, none⟩ = some (.slice A11 n11 c11) := blk_cell HRv1.out 11
       have q12_v1 : v1.cell? ⟨w.heap.size, 12, none⟩ = some (.slice A12 n12 c12) := blk_cell HRv1.out 12)
    | (go_at_call 46
       with_reducible refine (cm.out _).mono ?_
       rintro e v2 ⟨rfl, hbz⟩
       have HRv2 := Aside0.mk (krow HRv1.out hbz)
       have HBv2 := Aside0.mk (HBv1.out.trans (hbz.mono HBv1.out.size))
       clear hbz
       have q0_v2 : v2.cell? ⟨w.heap.size, 0, none⟩ = some (.int .i64 d) := blk_cell HRv2.out 0
       have q10_v2 : v2.cell? ⟨w.heap.size, 10, none⟩ = some (.int .i64 nn) := blk_cell HRv2.out 10
       have q11_v2 : v2.cell? ⟨w.heap.size, 11, none⟩ = some (.slice A11 n11 c11) := blk_cell HRv2.out 11
       have q12_v2 : v2.cell? ⟨w.heap.size, 12, none⟩ = some (.slice A12 n12 c12) := blk_cell HRv2.out 12)
    | (go_at_call 46
       with_reducible refine (cb.out _).mono ?_
       rintro e v3 ⟨rfl, hbz⟩
       have HRv3 := Aside0.mk (krow HRv2.out hbz)
       have HBv3 := Aside0.mk (HBv2.out.trans (hbz.mono HBv2.out.size))
       clear hbz
       have q0_v3 : v3.cell? ⟨w.heap.size, 0, none⟩ = some (.int .i64 d) := blk_cell HRv3.out 0
       have q10_v3 : v3.cell? ⟨w.heap.size, 10, none⟩ = some (.int .i64 nn) := blk_cell HRv3.out 10
       have q11_v3 : v3.cell? ⟨w.heap.size, 11, none⟩ = some (.slice A11 n11 c11) := blk_cell HRv3.out 11
       have q12_v3 : v3.cell? ⟨w.heap.size, 12, none⟩ = some (.slice A12 n12 c12) := blk_cell HRv3.out 12)
    | (go_at_call 46
       with_reducible refine (cn.out _).mono ?_
       rintro e v4 ⟨rfl, hbz⟩
       have HRv4 := Aside0.mk (krow HRv3.out hbz)
       have HBv4 := Aside0.mk (HBv3.out.trans (hbz.mono HBv3.out.size))
       clear hbz
       have q0_v4 : v4.cell? ⟨w.heap.size, 0, none⟩ = some (.int .i64 d) := blk_cell HRv4.out 0
       have q10_v4 : v4.cell? ⟨w.heap.size, 10, none⟩ = some (.int .i64 nn) := blk_cell HRv4.out 10
       have q11_v4 : v4.cell? ⟨w.heap.size, 11, none⟩ = some (.slice A11 n11 c11) := blk_cell HRv4.out 11
       have q12_v4 : v4.cell? ⟨w.heap.size, 12, none⟩ = some (.slice A12 n12 c12) := blk_cell HRv4.out 12)
    | (go_at_call 46
       with_reducible refine (cp.out _).mono ?_
       rintro e v5 ⟨rfl, hbz⟩
       have HRv5 := Aside0.mk (krow HRv4.out hbz)
       have HBv5 := Aside0.mk (HBv4.out.trans (hbz.mono HBv4.out.size))
       clear hbz
       have q0_v5 : v5.cell? ⟨w.heap.size, 0, none⟩ = some (.int .i64 d) := blk_cell HRv5.out 0
       have q10_v5 : v5.cell? ⟨w.heap.size, 10, none⟩ = some (.int .i64 nn) := blk_cell HRv5.out 10
       have q11_v5 : v5.cell? ⟨w.heap.size, 11, none⟩ = some (.slice A11 n11 c11) := blk_cell HRv5.out 11
       have q12_v5 : v5.cell? ⟨w.heap.size, 12, none⟩ = some (.slice A12 n12 c12) := blk_cell HRv5.out 12)
    | fail)
  all_goals
    go_ret
    refine ⟨ret_bool ?_, HBv5.out⟩
    first
      | (refine (sizeB_7 ?_ ?_ ?_ ?_).symm <;> omega)
      | (refine (sizeB_8 ?_ ?_ ?_ ?_).symm <;> omega)
      | (refine (sizeB_6 ?_ ?_ ?_ ?_ ?_).symm <;> omega)
      | (refine (sizeB_1 ?_).symm; omega)
      | (refine (sizeB_2 ?_).symm; omega)
      | (refine (sizeB_3 ?_).symm; omega)
      | (refine (sizeB_4 ?_).symm; omega)
      | (refine (sizeB_5 ?_).symm; omega)
set_option maxHeartbeats 4000000 in
set_option maxRecDepth 100000 in
theorem sized_x (d a1 a2 a3 a5 a6 a7 a8 a9 nn : Int) (A4 A11 A12 : Option Addr) (n4 c4 n11 c11 n12 c12 : Nat) (w : World) (hw : hasS d 119 = false) (hm : hasS d 109 = false) (hx : hasS d 120 = true) (hb : hasS d 98 = false) (hn : hasS d 110 = false) (hp : hasS d 112 = false) :
    Calls Tryd.prog 35 #[.agg #[.int .i64 d, .int .i64 a1, .int .i64 a2, .int .i64 a3, .slice A4 n4 c4, .int .u32 a5, .int .u32 a6, .int .u32 a7, .int .u64 a8, .int .u64 a9, .int .i64 nn, .slice A11 n11 c11, .slice A12 n12 c12]] w fun e w' => e = .returned (.bool (sizeB 1 16384 0 0 n11 nn n12)) ∧ Below w.heap.size w w' := by
  have cw := Lib.hid (has_f hw)
  have cm := Lib.hid (has_f hm)
  have cx := Lib.hid (has_t hx)
  have cb := Lib.hid (has_f hb)
  have cn := Lib.hid (has_f hn)
  have cp := Lib.hid (has_f hp)
  clear hw hm hx hb hn hp
  go_enter Tryd.func35, Tryd.ntmps35
  have HR0 := Aside0.mk (heap_alloc_new w (.cells #[.int .i64 d, .int .i64 a1, .int .i64 a2, .int .i64 a3, .slice A4 n4 c4, .int .u32 a5, .int .u32 a6, .int .u32 a7, .int .u64 a8, .int .u64 a9, .int .i64 nn, .slice A11 n11 c11, .slice A12 n12 c12] 42))
  have HB0 := Aside0.mk ((Below.refl w.heap.size w).alloc (Nat.le_refl _) (.cells #[.int .i64 d, .int .i64 a1, .int .i64 a2, .int .i64 a3, .slice A4 n4 c4, .int .u32 a5, .int .u32 a6, .int .u32 a7, .int .u64 a8, .int .u64 a9, .int .i64 nn, .slice A11 n11 c11, .slice A12 n12 c12] 42))
  go_wp2_with (first
    | (go_at_call 46
       with_reducible refine (cw.out _).mono ?_
       rintro e v1 ⟨rfl, hbz⟩
       have HRv1 := Aside0.mk (krow HR0.out hbz)
       have HBv1 := Aside0.mk (HB0.out.trans (hbz.mono HB0.out.size))
       clear hbz
       have q0_v1 : v1.cell? ⟨w.heap.size, 0, none⟩ = some (.int .i64 d) := blk_cell HRv1.out 0
       have q10_v1 : v1.cell? ⟨w.heap.size, 10, none⟩ = some (.int .i64 nn) := blk_cell HRv1.out 10
       have q11_v1 : v1.cell? ⟨w.heap.size, 11, none⟩ = some (.slice A11 n11 c11) := blk_cell HRv1.out 11
       have q12_v1 : v1.cell? ⟨w.heap.size, 12, none⟩ = some (.slice A12 n12 c12) := blk_cell HRv1.out 12)
    | (go_at_call 46
       with_reducible refine (cm.out _).mono ?_
       rintro e v2 ⟨rfl, hbz⟩
       have HRv2 := Aside0.mk (krow HRv1.out hbz)
       have HBv2 := Aside0.mk (HBv1.out.trans (hbz.mono HBv1.out.size))
       clear hbz
       have q0_v2 : v2.cell? ⟨w.heap.size, 0, none⟩ = some (.int .i64 d) := blk_cell HRv2.out 0
       have q10_v2 : v2.cell? ⟨w.heap.size, 10, none⟩ = some (.int .i64 nn) := blk_cell HRv2.out 10
       have q11_v2 : v2.cell? ⟨w.heap.size, 11, none⟩ = some (.slice A11 n11 c11) := blk_cell HRv2.out 11
       have q12_v2 : v2.cell? ⟨w.heap.size, 12, none⟩ = some (.slice A12 n12 c12) := blk_cell HRv2.out 12)
    | (go_at_call 46
       with_reducible refine (cx.out _).mono ?_
       rintro e v3 ⟨rfl, hbz⟩
       have HRv3 := Aside0.mk (krow HRv2.out hbz)
       have HBv3 := Aside0.mk (HBv2.out.trans (hbz.mono HBv2.out.size))
       clear hbz
       have q0_v3 : v3.cell? ⟨w.heap.size, 0, none⟩ = some (.int .i64 d) := blk_cell HRv3.out 0
       have q10_v3 : v3.cell? ⟨w.heap.size, 10, none⟩ = some (.int .i64 nn) := blk_cell HRv3.out 10
       have q11_v3 : v3.cell? ⟨w.heap.size, 11, none⟩ = some (.slice A11 n11 c11) := blk_cell HRv3.out 11
       have q12_v3 : v3.cell? ⟨w.heap.size, 12, none⟩ = some (.slice A12 n12 c12) := blk_cell HRv3.out 12)
    | (go_at_call 46
       with_reducible refine (cb.out _).mono ?_
       rintro e v4 ⟨rfl, hbz⟩
       have HRv4 := Aside0.mk (krow HRv3.out hbz)
       have HBv4 := Aside0.mk (HBv3.out.trans (hbz.mono HBv3.out.size))
       clear hbz
       have q0_v4 : v4.cell? ⟨w.heap.size, 0, none⟩ = some (.int .i64 d) := blk_cell HRv4.out 0
       have q10_v4 : v4.cell? ⟨w.heap.size, 10, none⟩ = some (.int .i64 nn) := blk_cell HRv4.out 10
       have q11_v4 : v4.cell? ⟨w.heap.size, 11, none⟩ = some (.slice A11 n11 c11) := blk_cell HRv4.out 11
       have q12_v4 : v4.cell? ⟨w.heap.size, 12, none⟩ = some (.slice A12 n12 c12) := blk_cell HRv4.out 12)
    | (go_at_call 46
       with_reducible refine (cn.out _).mono ?_
       rintro e v5 ⟨rfl, hbz⟩
       have HRv5 := Aside0.mk (krow HRv4.out hbz)
       have HBv5 := Aside0.mk (HBv4.out.trans (hbz.mono HBv4.out.size))
       clear hbz
       have q0_v5 : v5.cell? ⟨w.heap.size, 0, none⟩ = some (.int .i64 d) := blk_cell HRv5.out 0
       have q10_v5 : v5.cell? ⟨w.heap.size, 10, none⟩ = some (.int .i64 nn) := blk_cell HRv5.out 10
       have q11_v5 : v5.cell? ⟨w.heap.size, 11, none⟩ = some (.slice A11 n11 c11) := blk_cell HRv5.out 11
       have q12_v5 : v5.cell? ⟨w.heap.size, 12, none⟩ = some (.slice A12 n12 c12) := blk_cell HRv5.out 12)
    | (go_at_call 46
       with_reducible refine (cp.out _).mono ?_
       rintro e v6 ⟨rfl, hbz⟩
       have HRv6 := Aside0.mk (krow HRv5.out hbz)
       have HBv6 := Aside0.mk (HBv5.out.trans (hbz.mono HBv5.out.size))
       clear hbz
       have q0_v6 : v6.cell? ⟨w.heap.size, 0, none⟩ = some (.int .i64 d) := blk_cell HRv6.out 0
       have q10_v6 : v6.cell? ⟨w.heap.size, 10, none⟩ = some (.int .i64 nn) := blk_cell HRv6.out 10
       have q11_v6 : v6.cell? ⟨w.heap.size, 11, none⟩ = some (.slice A11 n11 c11) := blk_cell HRv6.out 11
       have q12_v6 : v6.cell? ⟨w.heap.size, 12, none⟩ = some (.slice A12 n12 c12) := blk_cell HRv6.out 12)
    | fail)
  all_goals
    go_ret
    refine ⟨ret_bool ?_, HBv6.out⟩
    first
      | (refine (sizeB_7 ?_ ?_ ?_ ?_).symm <;> omega)
      | (refine (sizeB_8 ?_ ?_ ?_ ?_).symm <;> omega)
      | (refine (sizeB_6 ?_ ?_ ?_ ?_ ?_).symm <;> omega)
      | (refine (sizeB_1 ?_).symm; omega)
      | (refine (sizeB_2 ?_).symm; omega)
      | (refine (sizeB_3 ?_).symm; omega)
      | (refine (sizeB_4 ?_).symm; omega)
      | (refine (sizeB_5 ?_).symm; omega)
set_option maxHeartbeats 4000000 in
set_option maxRecDepth 100000 in
theorem sized_b (d a1 a2 a3 a5 a6 a7 a8 a9 nn : Int) (A4 A11 A12 : Option Addr) (n4 c4 n11 c11 n12 c12 : Nat) (w : World) (hw : hasS d 119 = false) (hm : hasS d 109 = false) (hx : hasS d 120 = false) (hb : hasS d 98 = true) (hn : hasS d 110 = false) (hp : hasS d 112 = false) :
    Calls Tryd.prog 35 #[.agg #[.int .i64 d, .int .i64 a1, .int .i64 a2, .int .i64 a3, .slice A4 n4 c4, .int .u32 a5, .int .u32 a6, .int .u32 a7, .int .u64 a8, .int .u64 a9, .int .i64 nn, .slice A11 n11 c11, .slice A12 n12 c12]] w fun e w' => e = .returned (.bool (sizeB 0 0 60 0 n11 nn n12)) ∧ Below w.heap.size w w' := by
  have cw := Lib.hid (has_f hw)
  have cm := Lib.hid (has_f hm)
  have cx := Lib.hid (has_f hx)
  have cb := Lib.hid (has_t hb)
  have cn := Lib.hid (has_f hn)
  have cp := Lib.hid (has_f hp)
  clear hw hm hx hb hn hp
  go_enter Tryd.func35, Tryd.ntmps35
  have HR0 := Aside0.mk (heap_alloc_new w (.cells #[.int .i64 d, .int .i64 a1, .int .i64 a2, .int .i64 a3, .slice A4 n4 c4, .int .u32 a5, .int .u32 a6, .int .u32 a7, .int .u64 a8, .int .u64 a9, .int .i64 nn, .slice A11 n11 c11, .slice A12 n12 c12] 42))
  have HB0 := Aside0.mk ((Below.refl w.heap.size w).alloc (Nat.le_refl _) (.cells #[.int .i64 d, .int .i64 a1, .int .i64 a2, .int .i64 a3, .slice A4 n4 c4, .int .u32 a5, .int .u32 a6, .int .u32 a7, .int .u64 a8, .int .u64 a9, .int .i64 nn, .slice A11 n11 c11, .slice A12 n12 c12] 42))
  go_wp2_with (first
    | (go_at_call 46
       with_reducible refine (cw.out _).mono ?_
       rintro e v1 ⟨rfl, hbz⟩
       have HRv1 := Aside0.mk (krow HR0.out hbz)
       have HBv1 := Aside0.mk (HB0.out.trans (hbz.mono HB0.out.size))
       clear hbz
       have q0_v1 : v1.cell? ⟨w.heap.size, 0, none⟩ = some (.int .i64 d) := blk_cell HRv1.out 0
       have q10_v1 : v1.cell? ⟨w.heap.size, 10, none⟩ = some (.int .i64 nn) := blk_cell HRv1.out 10
       have q11_v1 : v1.cell? ⟨w.heap.size, 11, none⟩ = some (.slice A11 n11 c11) := blk_cell HRv1.out 11
       have q12_v1 : v1.cell? ⟨w.heap.size, 12, none⟩ = some (.slice A12 n12 c12) := blk_cell HRv1.out 12)
    | (go_at_call 46
       with_reducible refine (cm.out _).mono ?_
       rintro e v2 ⟨rfl, hbz⟩
       have HRv2 := Aside0.mk (krow HRv1.out hbz)
       have HBv2 := Aside0.mk (HBv1.out.trans (hbz.mono HBv1.out.size))
       clear hbz
       have q0_v2 : v2.cell? ⟨w.heap.size, 0, none⟩ = some (.int .i64 d) := blk_cell HRv2.out 0
       have q10_v2 : v2.cell? ⟨w.heap.size, 10, none⟩ = some (.int .i64 nn) := blk_cell HRv2.out 10
       have q11_v2 : v2.cell? ⟨w.heap.size, 11, none⟩ = some (.slice A11 n11 c11) := blk_cell HRv2.out 11
       have q12_v2 : v2.cell? ⟨w.heap.size, 12, none⟩ = some (.slice A12 n12 c12) := blk_cell HRv2.out 12)
    | (go_at_call 46
       with_reducible refine (cx.out _).mono ?_
       rintro e v3 ⟨rfl, hbz⟩
       have HRv3 := Aside0.mk (krow HRv2.out hbz)
       have HBv3 := Aside0.mk (HBv2.out.trans (hbz.mono HBv2.out.size))
       clear hbz
       have q0_v3 : v3.cell? ⟨w.heap.size, 0, none⟩ = some (.int .i64 d) := blk_cell HRv3.out 0
       have q10_v3 : v3.cell? ⟨w.heap.size, 10, none⟩ = some (.int .i64 nn) := blk_cell HRv3.out 10
       have q11_v3 : v3.cell? ⟨w.heap.size, 11, none⟩ = some (.slice A11 n11 c11) := blk_cell HRv3.out 11
       have q12_v3 : v3.cell? ⟨w.heap.size, 12, none⟩ = some (.slice A12 n12 c12) := blk_cell HRv3.out 12)
    | (go_at_call 46
       with_reducible refine (cb.out _).mono ?_
       rintro e v4 ⟨rfl, hbz⟩
       have HRv4 := Aside0.mk (krow HRv3.out hbz)
       have HBv4 := Aside0.mk (HBv3.out.trans (hbz.mono HBv3.out.size))
       clear hbz
       have q0_v4 : v4.cell? ⟨w.heap.size, 0, none⟩ = some (.int .i64 d) := blk_cell HRv4.out 0
       have q10_v4 : v4.cell? ⟨w.heap.size, 10, none⟩ = some (.int .i64 nn) := blk_cell HRv4.out 10
       have q11_v4 : v4.cell? ⟨w.heap.size, 11, none⟩ = some (.slice A11 n11 c11) := blk_cell HRv4.out 11
       have q12_v4 : v4.cell? ⟨w.heap.size, 12, none⟩ = some (.slice A12 n12 c12) := blk_cell HRv4.out 12)
    | (go_at_call 46
       with_reducible refine (cp.out _).mono ?_
       rintro e v5 ⟨rfl, hbz⟩
       have HRv5 := Aside0.mk (krow HRv4.out hbz)
       have HBv5 := Aside0.mk (HBv4.out.trans (hbz.mono HBv4.out.size))
       clear hbz
       have q0_v5 : v5.cell? ⟨w.heap.size, 0, none⟩ = some (.int .i64 d) := blk_cell HRv5.out 0
       have q10_v5 : v5.cell? ⟨w.heap.size, 10, none⟩ = some (.int .i64 nn) := blk_cell HRv5.out 10
       have q11_v5 : v5.cell? ⟨w.heap.size, 11, none⟩ = some (.slice A11 n11 c11) := blk_cell HRv5.out 11
       have q12_v5 : v5.cell? ⟨w.heap.size, 12, none⟩ = some (.slice A12 n12 c12) := blk_cell HRv5.out 12)
    | fail)
  all_goals
    go_ret
    refine ⟨ret_bool ?_, HBv5.out⟩
    first
      | (refine (sizeB_7 ?_ ?_ ?_ ?_).symm <;> omega)
      | (refine (sizeB_8 ?_ ?_ ?_ ?_).symm <;> omega)
      | (refine (sizeB_6 ?_ ?_ ?_ ?_ ?_).symm <;> omega)
      | (refine (sizeB_1 ?_).symm; omega)
      | (refine (sizeB_2 ?_).symm; omega)
      | (refine (sizeB_3 ?_).symm; omega)
      | (refine (sizeB_4 ?_).symm; omega)
      | (refine (sizeB_5 ?_).symm; omega)
set_option maxHeartbeats 4000000 in
set_option maxRecDepth 100000 in
theorem sized_n (d a1 a2 a3 a5 a6 a7 a8 a9 nn : Int) (A4 A11 A12 : Option Addr) (n4 c4 n11 c11 n12 c12 : Nat) (w : World) (hw : hasS d 119 = false) (hm : hasS d 109 = false) (hx : hasS d 120 = false) (hb : hasS d 98 = false) (hn : hasS d 110 = true) (hp : hasS d 112 = false) :
    Calls Tryd.prog 35 #[.agg #[.int .i64 d, .int .i64 a1, .int .i64 a2, .int .i64 a3, .slice A4 n4 c4, .int .u32 a5, .int .u32 a6, .int .u32 a7, .int .u64 a8, .int .u64 a9, .int .i64 nn, .slice A11 n11 c11, .slice A12 n12 c12]] w fun e w' => e = .returned (.bool (sizeB 0 0 1073741824 0 n11 nn n12)) ∧ Below w.heap.size w w' := by
  have cw := Lib.hid (has_f hw)
  have cm := Lib.hid (has_f hm)
  have cx := Lib.hid (has_f hx)
  have cb := Lib.hid (has_f hb)
  have cn := Lib.hid (has_t hn)
  have cp := Lib.hid (has_f hp)
  clear hw hm hx hb hn hp
  go_enter Tryd.func35, Tryd.ntmps35
  have HR0 := Aside0.mk (heap_alloc_new w (.cells #[.int .i64 d, .int .i64 a1, .int .i64 a2, .int .i64 a3, .slice A4 n4 c4, .int .u32 a5, .int .u32 a6, .int .u32 a7, .int .u64 a8, .int .u64 a9, .int .i64 nn, .slice A11 n11 c11, .slice A12 n12 c12] 42))
  have HB0 := Aside0.mk ((Below.refl w.heap.size w).alloc (Nat.le_refl _) (.cells #[.int .i64 d, .int .i64 a1, .int .i64 a2, .int .i64 a3, .slice A4 n4 c4, .int .u32 a5, .int .u32 a6, .int .u32 a7, .int .u64 a8, .int .u64 a9, .int .i64 nn, .slice A11 n11 c11, .slice A12 n12 c12] 42))
  go_wp2_with (first
    | (go_at_call 46
       with_reducible refine (cw.out _).mono ?_
       rintro e v1 ⟨rfl, hbz⟩
       have HRv1 := Aside0.mk (krow HR0.out hbz)
       have HBv1 := Aside0.mk (HB0.out.trans (hbz.mono HB0.out.size))
       clear hbz
       have q0_v1 : v1.cell? ⟨w.heap.size, 0, none⟩ = some (.int .i64 d) := blk_cell HRv1.out 0
       have q10_v1 : v1.cell? ⟨w.heap.size, 10, none⟩ = some (.int .i64 nn) := blk_cell HRv1.out 10
       have q11_v1 : v1.cell? ⟨w.heap.size, 11, none⟩ = some (.slice A11 n11 c11) := blk_cell HRv1.out 11
       have q12_v1 : v1.cell? ⟨w.heap.size, 12, none⟩ = some (.slice A12 n12 c12) := blk_cell HRv1.out 12)
    | (go_at_call 46
       with_reducible refine (cm.out _).mono ?_
       rintro e v2 ⟨rfl, hbz⟩
       have HRv2 := Aside0.mk (krow HRv1.out hbz)
       have HBv2 := Aside0.mk (HBv1.out.trans (hbz.mono HBv1.out.size))
       clear hbz
       have q0_v2 : v2.cell? ⟨w.heap.size, 0, none⟩ = some (.int .i64 d) := blk_cell HRv2.out 0
       have q10_v2 : v2.cell? ⟨w.heap.size, 10, none⟩ = some (.int .i64 nn) := blk_cell HRv2.out 10
       have q11_v2 : v2.cell? ⟨w.heap.size, 11, none⟩ = some (.slice A11 n11 c11) := blk_cell HRv2.out 11
       have q12_v2 : v2.cell? ⟨w.heap.size, 12, none⟩ = some (.slice A12 n12 c12) := blk_cell HRv2.out 12)
    | (go_at_call 46
       with_reducible refine (cx.out _).mono ?_
       rintro e v3 ⟨rfl, hbz⟩
       have HRv3 := Aside0.mk (krow HRv2.out hbz)
       have HBv3 := Aside0.mk (HBv2.out.trans (hbz.mono HBv2.out.size))
       clear hbz
       have q0_v3 : v3.cell? ⟨w.heap.size, 0, none⟩ = some (.int .i64 d) := blk_cell HRv3.out 0
       have q10_v3 : v3.cell? ⟨w.heap.size, 10, none⟩ = some (.int .i64 nn) := blk_cell HRv3.out 10
       have q11_v3 : v3.cell? ⟨w.heap.size, 11, none⟩ = some (.slice A11 n11 c11) := blk_cell HRv3.out 11
       have q12_v3 : v3.cell? ⟨w.heap.size, 12, none⟩ = some (.slice A12 n12 c12) := blk_cell HRv3.out 12)
    | (go_at_call 46
       with_reducible refine (cb.out _).mono ?_
       rintro e v4 ⟨rfl, hbz⟩
       have HRv4 := Aside0.mk (krow HRv3.out hbz)
       have HBv4 := Aside0.mk (HBv3.out.trans (hbz.mono HBv3.out.size))
       clear hbz
       have q0_v4 : v4.cell? ⟨w.heap.size, 0, none⟩ = some (.int .i64 d) := blk_cell HRv4.out 0
       have q10_v4 : v4.cell? ⟨w.heap.size, 10, none⟩ = some (.int .i64 nn) := blk_cell HRv4.out 10
       have q11_v4 : v4.cell? ⟨w.heap.size, 11, none⟩ = some (.slice A11 n11 c11) := blk_cell HRv4.out 11
       have q12_v4 : v4.cell? ⟨w.heap.size, 12, none⟩ = some (.slice A12 n12 c12) := blk_cell HRv4.out 12)
    | (go_at_call 46
       with_reducible refine (cn.out _).mono ?_
       rintro e v5 ⟨rfl, hbz⟩
       have HRv5 := Aside0.mk (krow HRv4.out hbz)
       have HBv5 := Aside0.mk (HBv4.out.trans (hbz.mono HBv4.out.size))
       clear hbz
       have q0_v5 : v5.cell? ⟨w.heap.size, 0, none⟩ = some (.int .i64 d) := blk_cell HRv5.out 0
       have q10_v5 : v5.cell? ⟨w.heap.size, 10, none⟩ = some (.int .i64 nn) := blk_cell HRv5.out 10
       have q11_v5 : v5.cell? ⟨w.heap.size, 11, none⟩ = some (.slice A11 n11 c11) := blk_cell HRv5.out 11
       have q12_v5 : v5.cell? ⟨w.heap.size, 12, none⟩ = some (.slice A12 n12 c12) := blk_cell HRv5.out 12)
    | (go_at_call 46
       with_reducible refine (cp.out _).mono ?_
       rintro e v6 ⟨rfl, hbz⟩
       have HRv6 := Aside0.mk (krow HRv5.out hbz)
       have HBv6 := Aside0.mk (HBv5.out.trans (hbz.mono HBv5.out.size))
       clear hbz
       have q0_v6 : v6.cell? ⟨w.heap.size, 0, none⟩ = some (.int .i64 d) := blk_cell HRv6.out 0
       have q10_v6 : v6.cell? ⟨w.heap.size, 10, none⟩ = some (.int .i64 nn) := blk_cell HRv6.out 10
       have q11_v6 : v6.cell? ⟨w.heap.size, 11, none⟩ = some (.slice A11 n11 c11) := blk_cell HRv6.out 11
       have q12_v6 : v6.cell? ⟨w.heap.size, 12, none⟩ = some (.slice A12 n12 c12) := blk_cell HRv6.out 12)
    | fail)
  all_goals
    go_ret
    refine ⟨ret_bool ?_, HBv6.out⟩
    first
      | (refine (sizeB_7 ?_ ?_ ?_ ?_).symm <;> omega)
      | (refine (sizeB_8 ?_ ?_ ?_ ?_).symm <;> omega)
      | (refine (sizeB_6 ?_ ?_ ?_ ?_ ?_).symm <;> omega)
      | (refine (sizeB_1 ?_).symm; omega)
      | (refine (sizeB_2 ?_).symm; omega)
      | (refine (sizeB_3 ?_).symm; omega)
      | (refine (sizeB_4 ?_).symm; omega)
      | (refine (sizeB_5 ?_).symm; omega)
set_option maxHeartbeats 4000000 in
set_option maxRecDepth 100000 in
theorem sized_p (d a1 a2 a3 a5 a6 a7 a8 a9 nn : Int) (A4 A11 A12 : Option Addr) (n4 c4 n11 c11 n12 c12 : Nat) (w : World) (hw : hasS d 119 = false) (hm : hasS d 109 = false) (hx : hasS d 120 = false) (hb : hasS d 98 = false) (hn : hasS d 110 = false) (hp : hasS d 112 = true) :
    Calls Tryd.prog 35 #[.agg #[.int .i64 d, .int .i64 a1, .int .i64 a2, .int .i64 a3, .slice A4 n4 c4, .int .u32 a5, .int .u32 a6, .int .u32 a7, .int .u64 a8, .int .u64 a9, .int .i64 nn, .slice A11 n11 c11, .slice A12 n12 c12]] w fun e w' => e = .returned (.bool (sizeB 0 0 0 600 n11 nn n12)) ∧ Below w.heap.size w w' := by
  have cw := Lib.hid (has_f hw)
  have cm := Lib.hid (has_f hm)
  have cx := Lib.hid (has_f hx)
  have cb := Lib.hid (has_f hb)
  have cn := Lib.hid (has_f hn)
  have cp := Lib.hid (has_t hp)
  clear hw hm hx hb hn hp
  go_enter Tryd.func35, Tryd.ntmps35
  have HR0 := Aside0.mk (heap_alloc_new w (.cells #[.int .i64 d, .int .i64 a1, .int .i64 a2, .int .i64 a3, .slice A4 n4 c4, .int .u32 a5, .int .u32 a6, .int .u32 a7, .int .u64 a8, .int .u64 a9, .int .i64 nn, .slice A11 n11 c11, .slice A12 n12 c12] 42))
  have HB0 := Aside0.mk ((Below.refl w.heap.size w).alloc (Nat.le_refl _) (.cells #[.int .i64 d, .int .i64 a1, .int .i64 a2, .int .i64 a3, .slice A4 n4 c4, .int .u32 a5, .int .u32 a6, .int .u32 a7, .int .u64 a8, .int .u64 a9, .int .i64 nn, .slice A11 n11 c11, .slice A12 n12 c12] 42))
  go_wp2_with (first
    | (go_at_call 46
       with_reducible refine (cw.out _).mono ?_
       rintro e v1 ⟨rfl, hbz⟩
       have HRv1 := Aside0.mk (krow HR0.out hbz)
       have HBv1 := Aside0.mk (HB0.out.trans (hbz.mono HB0.out.size))
       clear hbz
       have q0_v1 : v1.cell? ⟨w.heap.size, 0, none⟩ = some (.int .i64 d) := blk_cell HRv1.out 0
       have q10_v1 : v1.cell? ⟨w.heap.size, 10, none⟩ = some (.int .i64 nn) := blk_cell HRv1.out 10
       have q11_v1 : v1.cell? ⟨w.heap.size, 11, none⟩ = some (.slice A11 n11 c11) := blk_cell HRv1.out 11
       have q12_v1 : v1.cell? ⟨w.heap.size, 12, none⟩ = some (.slice A12 n12 c12) := blk_cell HRv1.out 12)
    | (go_at_call 46
       with_reducible refine (cm.out _).mono ?_
       rintro e v2 ⟨rfl, hbz⟩
       have HRv2 := Aside0.mk (krow HRv1.out hbz)
       have HBv2 := Aside0.mk (HBv1.out.trans (hbz.mono HBv1.out.size))
       clear hbz
       have q0_v2 : v2.cell? ⟨w.heap.size, 0, none⟩ = some (.int .i64 d) := blk_cell HRv2.out 0
       have q10_v2 : v2.cell? ⟨w.heap.size, 10, none⟩ = some (.int .i64 nn) := blk_cell HRv2.out 10
       have q11_v2 : v2.cell? ⟨w.heap.size, 11, none⟩ = some (.slice A11 n11 c11) := blk_cell HRv2.out 11
       have q12_v2 : v2.cell? ⟨w.heap.size, 12, none⟩ = some (.slice A12 n12 c12) := blk_cell HRv2.out 12)
    | (go_at_call 46
       with_reducible refine (cx.out _).mono ?_
       rintro e v3 ⟨rfl, hbz⟩
       have HRv3 := Aside0.mk (krow HRv2.out hbz)
       have HBv3 := Aside0.mk (HBv2.out.trans (hbz.mono HBv2.out.size))
       clear hbz
       have q0_v3 : v3.cell? ⟨w.heap.size, 0, none⟩ = some (.int .i64 d) := blk_cell HRv3.out 0
       have q10_v3 : v3.cell? ⟨w.heap.size, 10, none⟩ = some (.int .i64 nn) := blk_cell HRv3.out 10
       have q11_v3 : v3.cell? ⟨w.heap.size, 11, none⟩ = some (.slice A11 n11 c11) := blk_cell HRv3.out 11
       have q12_v3 : v3.cell? ⟨w.heap.size, 12, none⟩ = some (.slice A12 n12 c12) := blk_cell HRv3.out 12)
    | (go_at_call 46
       with_reducible refine (cb.out _).mono ?_
       rintro e v4 ⟨rfl, hbz⟩
       have HRv4 := Aside0.mk (krow HRv3.out hbz)
       have HBv4 := Aside0.mk (HBv3.out.trans (hbz.mono HBv3.out.size))
       clear hbz
       have q0_v4 : v4.cell? ⟨w.heap.size, 0, none⟩ = some (.int .i64 d) := blk_cell HRv4.out 0
       have q10_v4 : v4.cell? ⟨w.heap.size, 10, none⟩ = some (.int .i64 nn) := blk_cell HRv4.out 10
       have q11_v4 : v4.cell? ⟨w.heap.size, 11, none⟩ = some (.slice A11 n11 c11) := blk_cell HRv4.out 11
       have q12_v4 : v4.cell? ⟨w.heap.size, 12, none⟩ = some (.slice A12 n12 c12) := blk_cell HRv4.out 12)
    | (go_at_call 46
       with_reducible refine (cn.out _).mono ?_
       rintro e v5 ⟨rfl, hbz⟩
       have HRv5 := Aside0.mk (krow HRv4.out hbz)
       have HBv5 := Aside0.mk (HBv4.out.trans (hbz.mono HBv4.out.size))
       clear hbz
       have q0_v5 : v5.cell? ⟨w.heap.size, 0, none⟩ = some (.int .i64 d) := blk_cell HRv5.out 0
       have q10_v5 : v5.cell? ⟨w.heap.size, 10, none⟩ = some (.int .i64 nn) := blk_cell HRv5.out 10
       have q11_v5 : v5.cell? ⟨w.heap.size, 11, none⟩ = some (.slice A11 n11 c11) := blk_cell HRv5.out 11
       have q12_v5 : v5.cell? ⟨w.heap.size, 12, none⟩ = some (.slice A12 n12 c12) := blk_cell HRv5.out 12)
    | (go_at_call 46
       with_reducible refine (cp.out _).mono ?_
       rintro e v6 ⟨rfl, hbz⟩
       have HRv6 := Aside0.mk (krow HRv5.out hbz)
       have HBv6 := Aside0.mk (HBv5.out.trans (hbz.mono HBv5.out.size))
       clear hbz
       have q0_v6 : v6.cell? ⟨w.heap.size, 0, none⟩ = some (.int .i64 d) := blk_cell HRv6.out 0
       have q10_v6 : v6.cell? ⟨w.heap.size, 10, none⟩ = some (.int .i64 nn) := blk_cell HRv6.out 10
       have q11_v6 : v6.cell? ⟨w.heap.size, 11, none⟩ = some (.slice A11 n11 c11) := blk_cell HRv6.out 11
       have q12_v6 : v6.cell? ⟨w.heap.size, 12, none⟩ = some (.slice A12 n12 c12) := blk_cell HRv6.out 12)
    | fail)
  all_goals
    go_ret
    refine ⟨ret_bool ?_, HBv6.out⟩
    first
      | (refine (sizeB_7 ?_ ?_ ?_ ?_).symm <;> omega)
      | (refine (sizeB_8 ?_ ?_ ?_ ?_).symm <;> omega)
      | (refine (sizeB_6 ?_ ?_ ?_ ?_ ?_).symm <;> omega)
      | (refine (sizeB_1 ?_).symm; omega)
      | (refine (sizeB_2 ?_).symm; omega)
      | (refine (sizeB_3 ?_).symm; omega)
      | (refine (sizeB_4 ?_).symm; omega)
      | (refine (sizeB_5 ?_).symm; omega)
set_option maxHeartbeats 4000000 in
set_option maxRecDepth 100000 in
theorem sized_o (d a1 a2 a3 a5 a6 a7 a8 a9 nn : Int) (A4 A11 A12 : Option Addr) (n4 c4 n11 c11 n12 c12 : Nat) (w : World) (hw : hasS d 119 = false) (hm : hasS d 109 = false) (hx : hasS d 120 = false) (hb : hasS d 98 = false) (hn : hasS d 110 = false) (hp : hasS d 112 = false) :
    Calls Tryd.prog 35 #[.agg #[.int .i64 d, .int .i64 a1, .int .i64 a2, .int .i64 a3, .slice A4 n4 c4, .int .u32 a5, .int .u32 a6, .int .u32 a7, .int .u64 a8, .int .u64 a9, .int .i64 nn, .slice A11 n11 c11, .slice A12 n12 c12]] w fun e w' => e = .returned (.bool (sizeB 0 0 0 0 n11 nn n12)) ∧ Below w.heap.size w w' := by
  have cw := Lib.hid (has_f hw)
  have cm := Lib.hid (has_f hm)
  have cx := Lib.hid (has_f hx)
  have cb := Lib.hid (has_f hb)
  have cn := Lib.hid (has_f hn)
  have cp := Lib.hid (has_f hp)
  clear hw hm hx hb hn hp
  go_enter Tryd.func35, Tryd.ntmps35
  have HR0 := Aside0.mk (heap_alloc_new w (.cells #[.int .i64 d, .int .i64 a1, .int .i64 a2, .int .i64 a3, .slice A4 n4 c4, .int .u32 a5, .int .u32 a6, .int .u32 a7, .int .u64 a8, .int .u64 a9, .int .i64 nn, .slice A11 n11 c11, .slice A12 n12 c12] 42))
  have HB0 := Aside0.mk ((Below.refl w.heap.size w).alloc (Nat.le_refl _) (.cells #[.int .i64 d, .int .i64 a1, .int .i64 a2, .int .i64 a3, .slice A4 n4 c4, .int .u32 a5, .int .u32 a6, .int .u32 a7, .int .u64 a8, .int .u64 a9, .int .i64 nn, .slice A11 n11 c11, .slice A12 n12 c12] 42))
  go_wp2_with (first
    | (go_at_call 46
       with_reducible refine (cw.out _).mono ?_
       rintro e v1 ⟨rfl, hbz⟩
       have HRv1 := Aside0.mk (krow HR0.out hbz)
       have HBv1 := Aside0.mk (HB0.out.trans (hbz.mono HB0.out.size))
       clear hbz
       have q0_v1 : v1.cell? ⟨w.heap.size, 0, none⟩ = some (.int .i64 d) := blk_cell HRv1.out 0
       have q10_v1 : v1.cell? ⟨w.heap.size, 10, none⟩ = some (.int .i64 nn) := blk_cell HRv1.out 10
       have q11_v1 : v1.cell? ⟨w.heap.size, 11, none⟩ = some (.slice A11 n11 c11) := blk_cell HRv1.out 11
       have q12_v1 : v1.cell? ⟨w.heap.size, 12, none⟩ = some (.slice A12 n12 c12) := blk_cell HRv1.out 12)
    | (go_at_call 46
       with_reducible refine (cm.out _).mono ?_
       rintro e v2 ⟨rfl, hbz⟩
       have HRv2 := Aside0.mk (krow HRv1.out hbz)
       have HBv2 := Aside0.mk (HBv1.out.trans (hbz.mono HBv1.out.size))
       clear hbz
       have q0_v2 : v2.cell? ⟨w.heap.size, 0, none⟩ = some (.int .i64 d) := blk_cell HRv2.out 0
       have q10_v2 : v2.cell? ⟨w.heap.size, 10, none⟩ = some (.int .i64 nn) := blk_cell HRv2.out 10
       have q11_v2 : v2.cell? ⟨w.heap.size, 11, none⟩ = some (.slice A11 n11 c11) := blk_cell HRv2.out 11
       have q12_v2 : v2.cell? ⟨w.heap.size, 12, none⟩ = some (.slice A12 n12 c12) := blk_cell HRv2.out 12)
    | (go_at_call 46
       with_reducible refine (cx.out _).mono ?_
       rintro e v3 ⟨rfl, hbz⟩
       have HRv3 := Aside0.mk (krow HRv2.out hbz)
       have HBv3 := Aside0.mk (HBv2.out.trans (hbz.mono HBv2.out.size))
       clear hbz
       have q0_v3 : v3.cell? ⟨w.heap.size, 0, none⟩ = some (.int .i64 d) := blk_cell HRv3.out 0
       have q10_v3 : v3.cell? ⟨w.heap.size, 10, none⟩ = some (.int .i64 nn) := blk_cell HRv3.out 10
       have q11_v3 : v3.cell? ⟨w.heap.size, 11, none⟩ = some (.slice A11 n11 c11) := blk_cell HRv3.out 11
       have q12_v3 : v3.cell? ⟨w.heap.size, 12, none⟩ = some (.slice A12 n12 c12) := blk_cell HRv3.out 12)
    | (go_at_call 46
       with_reducible refine (cb.out _).mono ?_
       rintro e v4 ⟨rfl, hbz⟩
       have HRv4 := Aside0.mk (krow HRv3.out hbz)
       have HBv4 := Aside0.mk (HBv3.out.trans (hbz.mono HBv3.out.size))
       clear hbz
       have q0_v4 : v4.cell? ⟨w.heap.size, 0, none⟩ = some (.int .i64 d) := blk_cell HRv4.out 0
       have q10_v4 : v4.cell? ⟨w.heap.size, 10, none⟩ = some (.int .i64 nn) := blk_cell HRv4.out 10
       have q11_v4 : v4.cell? ⟨w.heap.size, 11, none⟩ = some (.slice A11 n11 c11) := blk_cell HRv4.out 11
       have q12_v4 : v4.cell? ⟨w.heap.size, 12, none⟩ = some (.slice A12 n12 c12) := blk_cell HRv4.out 12)
    | (go_at_call 46
       with_reducible refine (cn.out _).mono ?_
       rintro e v5 ⟨rfl, hbz⟩
       have HRv5 := Aside0.mk (krow HRv4.out hbz)
       have HBv5 := Aside0.mk (HBv4.out.trans (hbz.mono HBv4.out.size))
       clear hbz
       have q0_v5 : v5.cell? ⟨w.heap.size, 0, none⟩ = some (.int .i64 d) := blk_cell HRv5.out 0
       have q10_v5 : v5.cell? ⟨w.heap.size, 10, none⟩ = some (.int .i64 nn) := blk_cell HRv5.out 10
       have q11_v5 : v5.cell? ⟨w.heap.size, 11, none⟩ = some (.slice A11 n11 c11) := blk_cell HRv5.out 11
       have q12_v5 : v5.cell? ⟨w.heap.size, 12, none⟩ = some (.slice A12 n12 c12) := blk_cell HRv5.out 12)
    | (go_at_call 46
       with_reducible refine (cp.out _).mono ?_
       rintro e v6 ⟨rfl, hbz⟩
       have HRv6 := Aside0.mk (krow HRv5.out hbz)
       have HBv6 := Aside0.mk (HBv5.out.trans (hbz.mono HBv5.out.size))
       clear hbz
       have q0_v6 : v6.cell? ⟨w.heap.size, 0, none⟩ = some (.int .i64 d) := blk_cell HRv6.out 0
       have q10_v6 : v6.cell? ⟨w.heap.size, 10, none⟩ = some (.int .i64 nn) := blk_cell HRv6.out 10
       have q11_v6 : v6.cell? ⟨w.heap.size, 11, none⟩ = some (.slice A11 n11 c11) := blk_cell HRv6.out 11
       have q12_v6 : v6.cell? ⟨w.heap.size, 12, none⟩ = some (.slice A12 n12 c12) := blk_cell HRv6.out 12)
    | fail)
  all_goals
    go_ret
    refine ⟨ret_bool ?_, HBv6.out⟩
    first
      | (refine (sizeB_7 ?_ ?_ ?_ ?_).symm <;> omega)
      | (refine (sizeB_8 ?_ ?_ ?_ ?_).symm <;> omega)
      | (refine (sizeB_6 ?_ ?_ ?_ ?_ ?_).symm <;> omega)
      | (refine (sizeB_1 ?_).symm; omega)
      | (refine (sizeB_2 ?_).symm; omega)
      | (refine (sizeB_3 ?_).symm; omega)
      | (refine (sizeB_4 ?_).symm; omega)
      | (refine (sizeB_5 ?_).symm; omega)
theorem clsS_at {d : Int} {l : List Bool} (h : clsS d = l) : hasS d 119 = l.getD 0 false ∧ hasS d 109 = l.getD 1 false ∧ hasS d 120 = l.getD 2 false ∧ hasS d 98 = l.getD 3 false ∧ hasS d 110 = l.getD 4 false ∧ hasS d 112 = l.getD 5 false := by subst h; exact ⟨rfl, rfl, rfl, rfl, rfl, rfl⟩
def script_sized.f (a0_0 : Int) (a0_1 : Int) (a0_2 : Int) (a0_3 : Int) (l0_4 : List (S72)) (a0_5 : Int) (a0_6 : Int) (a0_7 : Int) (a0_8 : Int) (a0_9 : Int) (a0_10 : Int) (l0_11 : List Int) (l0_12 : List Bool) : Option Bool := some (sizedS a0_0 l0_11.length a0_10 l0_12.length)
theorem script_sized.calls (a0_0 : Int) (a0_1 : Int) (a0_2 : Int) (a0_3 : Int) (A0_4 : Option Addr) (c0_4 : Nat) (l0_4 : List (S72)) (a0_5 : Int) (a0_6 : Int) (a0_7 : Int) (a0_8 : Int) (a0_9 : Int) (a0_10 : Int) (A0_11 : Option Addr) (c0_11 : Nat) (l0_11 : List Int) (A0_12 : Option Addr) (c0_12 : Nat) (l0_12 : List Bool) (r : Bool) (w : World) (hr0_4 : Kd.C k72 w A0_4 l0_4.length l0_4) (hc0_4 : l0_4.length ≤ c0_4) (hr0_11 : Kd.C (Kd.int .u8) w A0_11 l0_11.length l0_11) (hc0_11 : l0_11.length ≤ c0_11) (hr0_12 : Kd.C Kd.bool w A0_12 l0_12.length l0_12) (hc0_12 : l0_12.length ≤ c0_12) (h : script_sized.f a0_0 a0_1 a0_2 a0_3 l0_4 a0_5 a0_6 a0_7 a0_8 a0_9 a0_10 l0_11 l0_12 = some r) :
    Calls Tryd.prog 35 #[.agg #[.int .i64 a0_0, .int .i64 a0_1, .int .i64 a0_2, .int .i64 a0_3, .slice A0_4 l0_4.length c0_4, .int .u32 a0_5, .int .u32 a0_6, .int .u32 a0_7, .int .u64 a0_8, .int .u64 a0_9, .int .i64 a0_10, .slice A0_11 l0_11.length c0_11, .slice A0_12 l0_12.length c0_12]] w fun e w' => e = .returned (.bool r) ∧ Below w.heap.size w w' := by
  obtain rfl := Option.some.inj h
  have hc := cls_any a0_0
  simp only [List.mem_cons, List.mem_nil_iff, or_false] at hc
  unfold sizedS lowS highS mostS picksS
  rcases hc with h | h | h | h | h | h | h
  · obtain ⟨h1, h2, h3, h4, h5, h6⟩ := clsS_at h
    simp only [List.getD_cons_zero, List.getD_cons_succ] at h1 h2 h3 h4 h5 h6
    rw [h1, h2, h3, h4, h5, h6]
    exact sized_w a0_0 a0_1 a0_2 a0_3 a0_5 a0_6 a0_7 a0_8 a0_9 a0_10 A0_4 A0_11 A0_12 l0_4.length c0_4 l0_11.length c0_11 l0_12.length c0_12 w h1 h2 h3 h4 h5 h6
  · obtain ⟨h1, h2, h3, h4, h5, h6⟩ := clsS_at h
    simp only [List.getD_cons_zero, List.getD_cons_succ] at h1 h2 h3 h4 h5 h6
    rw [h1, h2, h3, h4, h5, h6]
    exact sized_m a0_0 a0_1 a0_2 a0_3 a0_5 a0_6 a0_7 a0_8 a0_9 a0_10 A0_4 A0_11 A0_12 l0_4.length c0_4 l0_11.length c0_11 l0_12.length c0_12 w h1 h2 h3 h4 h5 h6
  · obtain ⟨h1, h2, h3, h4, h5, h6⟩ := clsS_at h
    simp only [List.getD_cons_zero, List.getD_cons_succ] at h1 h2 h3 h4 h5 h6
    rw [h1, h2, h3, h4, h5, h6]
    exact sized_x a0_0 a0_1 a0_2 a0_3 a0_5 a0_6 a0_7 a0_8 a0_9 a0_10 A0_4 A0_11 A0_12 l0_4.length c0_4 l0_11.length c0_11 l0_12.length c0_12 w h1 h2 h3 h4 h5 h6
  · obtain ⟨h1, h2, h3, h4, h5, h6⟩ := clsS_at h
    simp only [List.getD_cons_zero, List.getD_cons_succ] at h1 h2 h3 h4 h5 h6
    rw [h1, h2, h3, h4, h5, h6]
    exact sized_b a0_0 a0_1 a0_2 a0_3 a0_5 a0_6 a0_7 a0_8 a0_9 a0_10 A0_4 A0_11 A0_12 l0_4.length c0_4 l0_11.length c0_11 l0_12.length c0_12 w h1 h2 h3 h4 h5 h6
  · obtain ⟨h1, h2, h3, h4, h5, h6⟩ := clsS_at h
    simp only [List.getD_cons_zero, List.getD_cons_succ] at h1 h2 h3 h4 h5 h6
    rw [h1, h2, h3, h4, h5, h6]
    exact sized_n a0_0 a0_1 a0_2 a0_3 a0_5 a0_6 a0_7 a0_8 a0_9 a0_10 A0_4 A0_11 A0_12 l0_4.length c0_4 l0_11.length c0_11 l0_12.length c0_12 w h1 h2 h3 h4 h5 h6
  · obtain ⟨h1, h2, h3, h4, h5, h6⟩ := clsS_at h
    simp only [List.getD_cons_zero, List.getD_cons_succ] at h1 h2 h3 h4 h5 h6
    rw [h1, h2, h3, h4, h5, h6]
    exact sized_p a0_0 a0_1 a0_2 a0_3 a0_5 a0_6 a0_7 a0_8 a0_9 a0_10 A0_4 A0_11 A0_12 l0_4.length c0_4 l0_11.length c0_11 l0_12.length c0_12 w h1 h2 h3 h4 h5 h6
  · obtain ⟨h1, h2, h3, h4, h5, h6⟩ := clsS_at h
    simp only [List.getD_cons_zero, List.getD_cons_succ] at h1 h2 h3 h4 h5 h6
    rw [h1, h2, h3, h4, h5, h6]
    exact sized_o a0_0 a0_1 a0_2 a0_3 a0_5 a0_6 a0_7 a0_8 a0_9 a0_10 A0_4 A0_11 A0_12 l0_4.length c0_4 l0_11.length c0_11 l0_12.length c0_12 w h1 h2 h3 h4 h5 h6
end Go.Proofs.YtpdinahdcedmkaaDoor.ExtQ

