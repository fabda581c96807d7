import Derived.Test.YtpdinahdcedmkaaDoorMHead
import Derived.Test.YtpdinahdcedmkaaDoorQ0
/- script.placed, of acts with a device and perhaps a key, whose devices may be. -/
namespace Go.Proofs.YtpdinahdcedmkaaDoor.ExtQ
open Go.Proofs.YtpdinahdcedmkaaDoor.Ext
open Go.Proofs.YtpdinahdcedmkaaDoor.Q
set_option linter.unusedVariables false
set_option linter.unusedSimpArgs false
open Go.RowKit Go.Proofs.YtpdinahdcedmkaaDoorW.PrintLast Go.Proofs.YtpdinahdcedmkaaDoorW.PrintMore
open Go.Proofs.YtpdinahdcedmkaaDoorW.PrintWords hiding blk_cell blk_set nums_append

def oneR (lo hi : Int) : Bool := decide (lo < hi) && decide (hi ≤ 1152921504606846976)
def placeB (bd bt bk bi br : Bool) (dev dto key tid lo hi : Int) (m : Nat) : Bool := inS bd dev m && (inS bt dto m && (!(bt && decide (dto = dev)) && ((bk || decide (key = 0)) && ((bi || decide (tid = 0)) && (if br = true then oneR lo hi else decide (lo = 0) && decide (hi = 0))))))
theorem placeB_4 {bd bt bk bi br : Bool} {dev dto key tid lo hi : Int} {m : Nat} (h1 : inS bd dev m = true) (h2 : inS bt dto m = true) (h3 : bt = false ∨ dto ≠ dev) : placeB bd bt bk bi br dev dto key tid lo hi m = ((bk || decide (key = 0)) && ((bi || decide (tid = 0)) && (if br = true then oneR lo hi else decide (lo = 0) && decide (hi = 0)))) := by
  unfold placeB
  rw [h1, h2]
  rcases h3 with rfl | h3
  · rfl
  · rw [decide_eq_false h3]; simp
set_option maxHeartbeats 8000000 in
set_option maxRecDepth 100000 in
theorem placed_0 (d dev dto kd xm key tid lo hi nn : Int) (A4 A11 A12 : Option Addr) (n4 c4 n11 c11 n12 c12 : Nat) (s r : Int) (A : Option Addr) (c m : Nat) (B : Option Addr) (bm bc : Nat) (w : World) (b1 : inS true dev m = true) (b2 : inS false dto m = true) (hs1 : hasS d 100 = true) (hs2 : hasS d 116 = false) (hs3 : hasS d 107 = false) (hs4 : hasS d 105 = false) (hs5 : hasS d 114 = false) :
    Calls Tryd.prog 36 #[.agg #[.int .i64 s, .int .i64 r, .slice A m c, .slice B bm bc], .agg #[.int .i64 d, .int .i64 dev, .int .i64 dto, .int .i64 kd, .slice A4 n4 c4, .int .u32 xm, .int .u32 key, .int .u32 tid, .int .u64 lo, .int .u64 hi, .int .i64 nn, .slice A11 n11 c11, .slice A12 n12 c12]] w fun e w' => e = .returned (.bool (placeB true false false false false dev dto key tid lo hi m)) ∧ Below w.heap.size w w' := by
  have hu38 := Tryd.underlying38
  have cd := Lib.hid (has_t hs1)
  have ct := Lib.hid (has_f hs2)
  have ck := Lib.hid (has_f hs3)
  have ci := Lib.hid (has_f hs4)
  have cr := Lib.hid (has_f hs5)
  clear hs1 hs2 hs3 hs4 hs5
  have i1 := Lib.hid (@c_inB _ _ _ _ b1)
  have i2 := Lib.hid (@c_inB _ _ _ _ b2)
  rw [placeB_4 b1 b2 (.inl rfl)]
  clear b1 b2
  go_enter Tryd.func36, Tryd.ntmps36
  go_wp2
  have HR1 : Aside0 (((w.alloc (.cells #[.int .i64 s, .int .i64 r, .slice A m c, .slice B bm bc] 33)).alloc (.cells #[.int .i64 d, .int .i64 dev, .int .i64 dto, .int .i64 kd, .slice A4 n4 c4, .int .u32 xm, .int .u32 key, .int .u32 tid, .int .u64 lo, .int .u64 hi, .int .i64 nn, .slice A11 n11 c11, .slice A12 n12 c12] 42)).heap[w.heap.size]? = some (.cells #[.int .i64 s, .int .i64 r, .slice A m c, .slice B bm bc] 33)) := ⟨knew (heap_alloc_new w _)⟩
  have HR2 : Aside0 (((w.alloc (.cells #[.int .i64 s, .int .i64 r, .slice A m c, .slice B bm bc] 33)).alloc (.cells #[.int .i64 d, .int .i64 dev, .int .i64 dto, .int .i64 kd, .slice A4 n4 c4, .int .u32 xm, .int .u32 key, .int .u32 tid, .int .u64 lo, .int .u64 hi, .int .i64 nn, .slice A11 n11 c11, .slice A12 n12 c12] 42)).heap[w.heap.size + 1]? = some (.cells #[.int .i64 d, .int .i64 dev, .int .i64 dto, .int .i64 kd, .slice A4 n4 c4, .int .u32 xm, .int .u32 key, .int .u32 tid, .int .u64 lo, .int .u64 hi, .int .i64 nn, .slice A11 n11 c11, .slice A12 n12 c12] 42)) := ⟨by have h := heap_alloc_new (w.alloc (.cells #[.int .i64 s, .int .i64 r, .slice A m c, .slice B bm bc] 33)) (.cells #[.int .i64 d, .int .i64 dev, .int .i64 dto, .int .i64 kd, .slice A4 n4 c4, .int .u32 xm, .int .u32 key, .int .u32 tid, .int .u64 lo, .int .u64 hi, .int .i64 nn, .slice A11 n11 c11, .slice A12 n12 c12] 42); simpa using h⟩
  have HB : Aside0 (Below w.heap.size w ((w.alloc (.cells #[.int .i64 s, .int .i64 r, .slice A m c, .slice B bm bc] 33)).alloc (.cells #[.int .i64 d, .int .i64 dev, .int .i64 dto, .int .i64 kd, .slice A4 n4 c4, .int .u32 xm, .int .u32 key, .int .u32 tid, .int .u64 lo, .int .u64 hi, .int .i64 nn, .slice A11 n11 c11, .slice A12 n12 c12] 42))) := ⟨(((Below.refl w.heap.size w).alloc (Nat.le_refl _) _).alloc (by simp) _)⟩
  generalize ((w.alloc (.cells #[.int .i64 s, .int .i64 r, .slice A m c, .slice B bm bc] 33)).alloc (.cells #[.int .i64 d, .int .i64 dev, .int .i64 dto, .int .i64 kd, .slice A4 n4 c4, .int .u32 xm, .int .u32 key, .int .u32 tid, .int .u64 lo, .int .u64 hi, .int .i64 nn, .slice A11 n11 c11, .slice A12 n12 c12] 42)) = v1 at *
  have hz : w.heap.size + 1 < v1.heap.size := (Array.getElem?_eq_some_iff.1 HR2.out).1
  have e0 : v1.cell? ⟨w.heap.size + 1, 0, none⟩ = some (.int .i64 d) := blk_cell HR2.out 0
  have e1 : v1.cell? ⟨w.heap.size + 1, 1, none⟩ = some (.int .i64 dev) := blk_cell HR2.out 1
  have e2 : v1.cell? ⟨w.heap.size + 1, 2, none⟩ = some (.int .i64 dto) := blk_cell HR2.out 2
  have en : v1.cell? ⟨w.heap.size, 2, none⟩ = some (.slice A m c) := blk_cell HR1.out 2
  refine wp_region_held_drew (S := (fun W => W.cell? ⟨w.heap.size + 1, 0, none⟩ = some (.int .i64 d) ∧ W.cell? ⟨w.heap.size + 1, 1, none⟩ = some (.int .i64 dev) ∧ W.cell? ⟨w.heap.size + 1, 2, none⟩ = some (.int .i64 dto) ∧ W.cell? ⟨w.heap.size, 2, none⟩ = some (.slice A m c) ∧ Aside0 (Below w.heap.size w W) ∧ w.heap.size + 1 < W.heap.size ∧ Aside0 (W.heap[w.heap.size]? = some (.cells #[.int .i64 s, .int .i64 r, .slice A m c, .slice B bm bc] 33)) ∧ Aside0 (W.heap[w.heap.size + 1]? = some (.cells #[.int .i64 d, .int .i64 dev, .int .i64 dto, .int .i64 kd, .slice A4 n4 c4, .int .u32 xm, .int .u32 key, .int .u32 tid, .int .u64 lo, .int .u64 hi, .int .i64 nn, .slice A11 n11 c11, .slice A12 n12 c12] 42)))) (by kernel_rfl) ?_ (fun hHeld => ?_)
  · try dsimp only
    exact ⟨e0, e1, e2, en, ⟨HB.out.drew⟩, hz, HR1, HR2⟩
  refine wpAnyH_take (i := 0) (v := ?_) rfl (by kernel_rfl) (by kernel_rfl) (by kernel_rfl) (fun _ _ _ h => h) (Or.inl ⟨by rfl, ?_⟩) (by assumption) ?_
  rotate_left
  · intro w hSw
    try dsimp only at hSw
    go_simp
    try with_reducible rfl
  try simp only [Act.put, List.setIfInBounds_toArray, List.set_cons_zero, List.set_cons_succ, List.getElem_toArray, List.getElem_cons_succ, List.getElem_cons_zero]
  refine wpAnyH_take (i := 1) (v := ?_) rfl (by kernel_rfl) (by kernel_rfl) (by kernel_rfl) (fun _ _ _ h => h) (Or.inl ⟨by rfl, ?_⟩) (by assumption) ?_
  rotate_left
  · intro w hSw
    try dsimp only at hSw
    go_simp
    try with_reducible rfl
  try simp only [Act.put, List.setIfInBounds_toArray, List.set_cons_zero, List.set_cons_succ, List.getElem_toArray, List.getElem_cons_succ, List.getElem_cons_zero]
  refine wpAnyH_take (i := 2) (v := ?_) rfl (by kernel_rfl) (by kernel_rfl) (by kernel_rfl) (fun _ _ _ h => h) (Or.inl ⟨by rfl, ?_⟩) (by assumption) ?_
  rotate_left
  · intro w hSw
    try dsimp only at hSw
    go_simp
    try with_reducible rfl
  try simp only [Act.put, List.setIfInBounds_toArray, List.set_cons_zero, List.set_cons_succ, List.getElem_toArray, List.getElem_cons_succ, List.getElem_cons_zero]
  refine wpAnyH_take (i := 4) (v := ?_) rfl (by kernel_rfl) (by kernel_rfl) (by kernel_rfl) (fun _ _ _ h => h) (Or.inl ⟨by rfl, ?_⟩) (by assumption) ?_
  rotate_left
  · intro w hSw
    try dsimp only at hSw
    go_simp
    try with_reducible rfl
  try simp only [Act.put, List.setIfInBounds_toArray, List.set_cons_zero, List.set_cons_succ, List.getElem_toArray, List.getElem_cons_succ, List.getElem_cons_zero]
  refine wpAnyH_take (i := 5) (v := ?_) rfl (by kernel_rfl) (by kernel_rfl) (by kernel_rfl) (fun _ _ _ h => h) (Or.inl ⟨by rfl, ?_⟩) (by assumption) ?_
  rotate_left
  · intro w hSw
    try dsimp only at hSw
    go_simp
    try with_reducible rfl
  try simp only [Act.put, List.setIfInBounds_toArray, List.set_cons_zero, List.set_cons_succ, List.getElem_toArray, List.getElem_cons_succ, List.getElem_cons_zero]
  refine wpAnyH_ready (rs := [3]) (by kernel_rfl) (by simp) ?_
  refine AllReadyH.cons rfl (fun K hK => ?_) AllReadyH.nil
  go_simp
  go_at_call 46
  with_reducible refine (cd.out _).mono ?_
  rintro e v2 ⟨rfl, hbz⟩
  try go_wp2_with fail
  refine hK.out _ _ ?_ ?_
  · try dsimp only
    obtain ⟨g0, g1, g2, g3, g4, g5, g6, g7⟩ := hHeld
    exact keepP g0 g1 g2 g3 g4 g5 g6 g7 hbz
  clear hHeld hbz hK K
  intro hHeld
  try simp only [Act.put, List.setIfInBounds_toArray, List.set_cons_zero, List.set_cons_succ, List.getElem_toArray, List.getElem_cons_succ, List.getElem_cons_zero]
  refine wpAnyH_ready (rs := [6]) (by kernel_rfl) (by simp) ?_
  refine AllReadyH.cons rfl (fun K hK => ?_) AllReadyH.nil
  go_simp
  go_at_call 49
  with_reducible refine (i1.out _ _ _ _ hHeld.2.2.2.1).mono ?_
  rintro e v3 ⟨rfl, hbz⟩
  try go_wp2_with fail
  refine hK.out _ _ ?_ ?_
  · try dsimp only
    obtain ⟨g0, g1, g2, g3, g4, g5, g6, g7⟩ := hHeld
    exact keepP g0 g1 g2 g3 g4 g5 g6 g7 hbz
  clear hHeld hbz hK K
  intro hHeld
  try simp only [Act.put, List.setIfInBounds_toArray, List.set_cons_zero, List.set_cons_succ, List.getElem_toArray, List.getElem_cons_succ, List.getElem_cons_zero]
  refine wpAnyH_take (i := 7) (v := ?_) rfl (by kernel_rfl) (by kernel_rfl) (by kernel_rfl) (fun _ _ _ h => h) (Or.inl ⟨by rfl, ?_⟩) (by assumption) ?_
  rotate_left
  · intro w hSw
    try dsimp only at hSw
    go_simp
    try with_reducible rfl
  try simp only [Act.put, List.setIfInBounds_toArray, List.set_cons_zero, List.set_cons_succ, List.getElem_toArray, List.getElem_cons_succ, List.getElem_cons_zero]
  refine wpAnyH_take (i := 8) (v := ?_) rfl (by kernel_rfl) (by kernel_rfl) (by kernel_rfl) (fun _ _ _ h => h) (Or.inl ⟨by rfl, ?_⟩) (by assumption) ?_
  rotate_left
  · intro w hSw
    try dsimp only at hSw
    go_simp
    try with_reducible rfl
  try simp only [Act.put, List.setIfInBounds_toArray, List.set_cons_zero, List.set_cons_succ, List.getElem_toArray, List.getElem_cons_succ, List.getElem_cons_zero]
  refine wpAnyH_take (i := 9) (v := ?_) rfl (by kernel_rfl) (by kernel_rfl) (by kernel_rfl) (fun _ _ _ h => h) (Or.inl ⟨by rfl, ?_⟩) (by assumption) ?_
  rotate_left
  · intro w hSw
    try dsimp only at hSw
    go_simp
    try with_reducible rfl
  try simp only [Act.put, List.setIfInBounds_toArray, List.set_cons_zero, List.set_cons_succ, List.getElem_toArray, List.getElem_cons_succ, List.getElem_cons_zero]
  refine wpAnyH_take (i := 10) (v := ?_) rfl (by kernel_rfl) (by kernel_rfl) (by kernel_rfl) (fun _ _ _ h => h) (Or.inl ⟨by rfl, ?_⟩) (by assumption) ?_
  rotate_left
  · intro w hSw
    try dsimp only at hSw
    go_simp
    try with_reducible rfl
  try simp only [Act.put, List.setIfInBounds_toArray, List.set_cons_zero, List.set_cons_succ, List.getElem_toArray, List.getElem_cons_succ, List.getElem_cons_zero]
  refine wpAnyH_take (i := 11) (v := ?_) rfl (by kernel_rfl) (by kernel_rfl) (by kernel_rfl) (fun _ _ _ h => h) (Or.inl ⟨by rfl, ?_⟩) (by assumption) ?_
  rotate_left
  · intro w hSw
    try dsimp only at hSw
    go_simp
    try with_reducible rfl
  try simp only [Act.put, List.setIfInBounds_toArray, List.set_cons_zero, List.set_cons_succ, List.getElem_toArray, List.getElem_cons_succ, List.getElem_cons_zero]
  refine wpAnyH_take (i := 13) (v := ?_) rfl (by kernel_rfl) (by kernel_rfl) (by kernel_rfl) (fun _ _ _ h => h) (Or.inl ⟨by rfl, ?_⟩) (by assumption) ?_
  rotate_left
  · intro w hSw
    try dsimp only at hSw
    go_simp
    try with_reducible rfl
  try simp only [Act.put, List.setIfInBounds_toArray, List.set_cons_zero, List.set_cons_succ, List.getElem_toArray, List.getElem_cons_succ, List.getElem_cons_zero]
  refine wpAnyH_take (i := 14) (v := ?_) rfl (by kernel_rfl) (by kernel_rfl) (by kernel_rfl) (fun _ _ _ h => h) (Or.inl ⟨by rfl, ?_⟩) (by assumption) ?_
  rotate_left
  · intro w hSw
    try dsimp only at hSw
    go_simp
    try with_reducible rfl
  try simp only [Act.put, List.setIfInBounds_toArray, List.set_cons_zero, List.set_cons_succ, List.getElem_toArray, List.getElem_cons_succ, List.getElem_cons_zero]
  refine wpAnyH_ready (rs := [12]) (by kernel_rfl) (by simp) ?_
  refine AllReadyH.cons rfl (fun K hK => ?_) AllReadyH.nil
  go_simp
  go_at_call 46
  with_reducible refine (ct.out _).mono ?_
  rintro e v4 ⟨rfl, hbz⟩
  try go_wp2_with fail
  refine hK.out _ _ ?_ ?_
  · try dsimp only
    obtain ⟨g0, g1, g2, g3, g4, g5, g6, g7⟩ := hHeld
    exact keepP g0 g1 g2 g3 g4 g5 g6 g7 hbz
  clear hHeld hbz hK K
  intro hHeld
  try simp only [Act.put, List.setIfInBounds_toArray, List.set_cons_zero, List.set_cons_succ, List.getElem_toArray, List.getElem_cons_succ, List.getElem_cons_zero]
  refine wpAnyH_ready (rs := [15]) (by kernel_rfl) (by simp) ?_
  refine AllReadyH.cons rfl (fun K hK => ?_) AllReadyH.nil
  go_simp
  go_at_call 49
  with_reducible refine (i2.out _ _ _ _ hHeld.2.2.2.1).mono ?_
  rintro e v5 ⟨rfl, hbz⟩
  try go_wp2_with fail
  refine hK.out _ _ ?_ ?_
  · try dsimp only
    obtain ⟨g0, g1, g2, g3, g4, g5, g6, g7⟩ := hHeld
    exact keepP g0 g1 g2 g3 g4 g5 g6 g7 hbz
  clear hHeld hbz hK K
  intro hHeld
  try simp only [Act.put, List.setIfInBounds_toArray, List.set_cons_zero, List.set_cons_succ, List.getElem_toArray, List.getElem_cons_succ, List.getElem_cons_zero]
  refine wpAnyH_take (i := 16) (v := ?_) rfl (by kernel_rfl) (by kernel_rfl) (by kernel_rfl) (fun _ _ _ h => h) (Or.inl ⟨by rfl, ?_⟩) (by assumption) ?_
  rotate_left
  · intro w hSw
    try dsimp only at hSw
    go_simp
    try with_reducible rfl
  try simp only [Act.put, List.setIfInBounds_toArray, List.set_cons_zero, List.set_cons_succ, List.getElem_toArray, List.getElem_cons_succ, List.getElem_cons_zero]
  refine wpAnyH_take (i := 17) (v := ?_) rfl (by kernel_rfl) (by kernel_rfl) (by kernel_rfl) (fun _ _ _ h => h) (Or.inl ⟨by rfl, ?_⟩) (by assumption) ?_
  rotate_left
  · intro w hSw
    try dsimp only at hSw
    go_simp
    try with_reducible rfl
  try simp only [Act.put, List.setIfInBounds_toArray, List.set_cons_zero, List.set_cons_succ, List.getElem_toArray, List.getElem_cons_succ, List.getElem_cons_zero]
  refine wpAnyH_take (i := 18) (v := ?_) rfl (by kernel_rfl) (by kernel_rfl) (by kernel_rfl) (fun _ _ _ h => h) (Or.inl ⟨by rfl, ?_⟩) (by assumption) ?_
  rotate_left
  · intro w hSw
    try dsimp only at hSw
    go_simp
    try with_reducible rfl
  try simp only [Act.put, List.setIfInBounds_toArray, List.set_cons_zero, List.set_cons_succ, List.getElem_toArray, List.getElem_cons_succ, List.getElem_cons_zero]
  refine wpAnyH_take (i := 19) (v := ?_) rfl (by kernel_rfl) (by kernel_rfl) (by kernel_rfl) (fun _ _ _ h => h) (Or.inl ⟨by rfl, ?_⟩) (by assumption) ?_
  rotate_left
  · intro w hSw
    try dsimp only at hSw
    go_simp
    try with_reducible rfl
  try simp only [Act.put, List.setIfInBounds_toArray, List.set_cons_zero, List.set_cons_succ, List.getElem_toArray, List.getElem_cons_succ, List.getElem_cons_zero]
  refine wpAnyH_take (i := 20) (v := ?_) rfl (by kernel_rfl) (by kernel_rfl) (by kernel_rfl) (fun _ _ _ h => h) (Or.inl ⟨by rfl, ?_⟩) (by assumption) ?_
  rotate_left
  · intro w hSw
    try dsimp only at hSw
    go_simp
    try with_reducible rfl
  try simp only [Act.put, List.setIfInBounds_toArray, List.set_cons_zero, List.set_cons_succ, List.getElem_toArray, List.getElem_cons_succ, List.getElem_cons_zero]
  refine wpAnyH_ready (rs := [21]) (by kernel_rfl) (by simp) ?_
  refine AllReadyH.cons rfl (fun K hK => ?_) AllReadyH.nil
  go_simp
  go_at_call 46
  with_reducible refine (ct.out _).mono ?_
  rintro e v6 ⟨rfl, hbz⟩
  try go_wp2_with fail
  refine hK.out _ _ ?_ ?_
  · try dsimp only
    obtain ⟨g0, g1, g2, g3, g4, g5, g6, g7⟩ := hHeld
    exact keepP g0 g1 g2 g3 g4 g5 g6 g7 hbz
  clear hHeld hbz hK K
  intro hHeld
  try simp only [Act.put, List.setIfInBounds_toArray, List.set_cons_zero, List.set_cons_succ, List.getElem_toArray, List.getElem_cons_succ, List.getElem_cons_zero]
  refine wpAnyH_take (i := 22) (v := ?_) rfl (by kernel_rfl) (by kernel_rfl) (by kernel_rfl) (fun _ _ _ h => h) (Or.inl ⟨by rfl, ?_⟩) (by assumption) ?_
  rotate_left
  · intro w hSw
    try dsimp only at hSw
    go_simp
    try with_reducible rfl
  try simp only [Act.put, List.setIfInBounds_toArray, List.set_cons_zero, List.set_cons_succ, List.getElem_toArray, List.getElem_cons_succ, List.getElem_cons_zero]
  refine wpAnyH_take (i := 23) (v := undef) rfl (by kernel_rfl) (by kernel_rfl) (by kernel_rfl) (fun _ _ _ h => h) (Or.inr ⟨by rfl, rfl⟩) (by assumption) ?_
  try simp only [Act.put, List.setIfInBounds_toArray, List.set_cons_zero, List.set_cons_succ, List.getElem_toArray, List.getElem_cons_succ, List.getElem_cons_zero]
  refine wpAnyH_take (i := 24) (v := undef) rfl (by kernel_rfl) (by kernel_rfl) (by kernel_rfl) (fun _ _ _ h => h) (Or.inr ⟨by rfl, rfl⟩) (by assumption) ?_
  try simp only [Act.put, List.setIfInBounds_toArray, List.set_cons_zero, List.set_cons_succ, List.getElem_toArray, List.getElem_cons_succ, List.getElem_cons_zero]
  refine wpAnyH_take (i := 25) (v := undef) rfl (by kernel_rfl) (by kernel_rfl) (by kernel_rfl) (fun _ _ _ h => h) (Or.inr ⟨by rfl, rfl⟩) (by assumption) ?_
  try simp only [Act.put, List.setIfInBounds_toArray, List.set_cons_zero, List.set_cons_succ, List.getElem_toArray, List.getElem_cons_succ, List.getElem_cons_zero]
  refine wpAnyH_take (i := 26) (v := undef) rfl (by kernel_rfl) (by kernel_rfl) (by kernel_rfl) (fun _ _ _ h => h) (Or.inr ⟨by rfl, rfl⟩) (by assumption) ?_
  try simp only [Act.put, List.setIfInBounds_toArray, List.set_cons_zero, List.set_cons_succ, List.getElem_toArray, List.getElem_cons_succ, List.getElem_cons_zero]
  refine wpAnyH_take (i := 27) (v := undef) rfl (by kernel_rfl) (by kernel_rfl) (by kernel_rfl) (fun _ _ _ h => h) (Or.inr ⟨by rfl, rfl⟩) (by assumption) ?_
  try simp only [Act.put, List.setIfInBounds_toArray, List.set_cons_zero, List.set_cons_succ, List.getElem_toArray, List.getElem_cons_succ, List.getElem_cons_zero]
  refine wpAnyH_take (i := 28) (v := ?_) rfl (by kernel_rfl) (by kernel_rfl) (by kernel_rfl) (fun _ _ _ h => h) (Or.inl ⟨by rfl, ?_⟩) (by assumption) ?_
  rotate_left
  · intro w hSw
    try dsimp only at hSw
    go_simp
    try with_reducible rfl
  try simp only [Act.put, List.setIfInBounds_toArray, List.set_cons_zero, List.set_cons_succ, List.getElem_toArray, List.getElem_cons_succ, List.getElem_cons_zero]
  refine wpAnyH_take (i := 29) (v := ?_) rfl (by kernel_rfl) (by kernel_rfl) (by kernel_rfl) (fun _ _ _ h => h) (Or.inl ⟨by rfl, ?_⟩) (by assumption) ?_
  rotate_left
  · intro w hSw
    try dsimp only at hSw
    go_simp
    try with_reducible rfl
  try simp only [Act.put, List.setIfInBounds_toArray, List.set_cons_zero, List.set_cons_succ, List.getElem_toArray, List.getElem_cons_succ, List.getElem_cons_zero]
  refine wpAnyH_done (by kernel_rfl) ?_ _
  obtain ⟨g0, g1, g2, g3, HBx, g5, HR1x, HRx⟩ := hHeld
  clear e0 e1 e2 en hz HR1 HR2 HB g0 g1 g2 g3 g5 HR1x cd ct i1 i2
  have q0_v6 : v6.cell? ⟨w.heap.size + 1, 0, none⟩ = some (.int .i64 d) := blk_cell HRx.out 0
  have q6_v6 : v6.cell? ⟨w.heap.size + 1, 6, none⟩ = some (.int .u32 key) := blk_cell HRx.out 6
  have q7_v6 : v6.cell? ⟨w.heap.size + 1, 7, none⟩ = some (.int .u32 tid) := blk_cell HRx.out 7
  have q8_v6 : v6.cell? ⟨w.heap.size + 1, 8, none⟩ = some (.int .u64 lo) := blk_cell HRx.out 8
  have q9_v6 : v6.cell? ⟨w.heap.size + 1, 9, none⟩ = some (.int .u64 hi) := blk_cell HRx.out 9
  go_wp2_with (first
    | (go_at_call 46
       with_reducible refine (ck.out _).mono ?_
       rintro e v7 ⟨rfl, hbz⟩
       have HRv7 := Aside0.mk (krow HRx.out hbz)
       have HBv7 := Aside0.mk (HBx.out.trans (hbz.mono HBx.out.size))
       clear hbz
       have q0_v7 : v7.cell? ⟨w.heap.size + 1, 0, none⟩ = some (.int .i64 d) := blk_cell HRv7.out 0
       have q6_v7 : v7.cell? ⟨w.heap.size + 1, 6, none⟩ = some (.int .u32 key) := blk_cell HRv7.out 6
       have q7_v7 : v7.cell? ⟨w.heap.size + 1, 7, none⟩ = some (.int .u32 tid) := blk_cell HRv7.out 7
       have q8_v7 : v7.cell? ⟨w.heap.size + 1, 8, none⟩ = some (.int .u64 lo) := blk_cell HRv7.out 8
       have q9_v7 : v7.cell? ⟨w.heap.size + 1, 9, none⟩ = some (.int .u64 hi) := blk_cell HRv7.out 9)
    | (go_at_call 46
       with_reducible refine (ci.out _).mono ?_
       rintro e v8 ⟨rfl, hbz⟩
       have HRv8 := Aside0.mk (krow HRv7.out hbz)
       have HBv8 := Aside0.mk (HBv7.out.trans (hbz.mono HBv7.out.size))
       clear hbz
       have q0_v8 : v8.cell? ⟨w.heap.size + 1, 0, none⟩ = some (.int .i64 d) := blk_cell HRv8.out 0
       have q6_v8 : v8.cell? ⟨w.heap.size + 1, 6, none⟩ = some (.int .u32 key) := blk_cell HRv8.out 6
       have q7_v8 : v8.cell? ⟨w.heap.size + 1, 7, none⟩ = some (.int .u32 tid) := blk_cell HRv8.out 7
       have q8_v8 : v8.cell? ⟨w.heap.size + 1, 8, none⟩ = some (.int .u64 lo) := blk_cell HRv8.out 8
       have q9_v8 : v8.cell? ⟨w.heap.size + 1, 9, none⟩ = some (.int .u64 hi) := blk_cell HRv8.out 9)
    | (go_at_call 46
       with_reducible refine (cr.out _).mono ?_
       rintro e v9 ⟨rfl, hbz⟩
       have HRv9 := Aside0.mk (krow HRv8.out hbz)
       have HBv9 := Aside0.mk (HBv8.out.trans (hbz.mono HBv8.out.size))
       clear hbz
       have q0_v9 : v9.cell? ⟨w.heap.size + 1, 0, none⟩ = some (.int .i64 d) := blk_cell HRv9.out 0
       have q6_v9 : v9.cell? ⟨w.heap.size + 1, 6, none⟩ = some (.int .u32 key) := blk_cell HRv9.out 6
       have q7_v9 : v9.cell? ⟨w.heap.size + 1, 7, none⟩ = some (.int .u32 tid) := blk_cell HRv9.out 7
       have q8_v9 : v9.cell? ⟨w.heap.size + 1, 8, none⟩ = some (.int .u64 lo) := blk_cell HRv9.out 8
       have q9_v9 : v9.cell? ⟨w.heap.size + 1, 9, none⟩ = some (.int .u64 hi) := blk_cell HRv9.out 9)
    | fail)
  all_goals
    go_ret
    refine ⟨ret_bool ?_, ?_⟩
    · first
        | (simp; done)
        | (simp; omega)
        | (have e1 : tid ≠ 0 := bne_iff_ne.1 (by assumption); simp [e1]; done)
        | (have e1 : key ≠ 0 := bne_iff_ne.1 (by assumption); simp [e1]; done)
        | (have e1 : tid = 0 := bne_eq_false_iff_eq.1 (by assumption); simp [e1]; first | done | omega)
        | (have e1 : key = 0 := bne_eq_false_iff_eq.1 (by assumption); simp [e1]; first | done | omega)
        | (have e1 : key = 0 := bne_eq_false_iff_eq.1 (by assumption); have e2 : tid = 0 := bne_eq_false_iff_eq.1 (by assumption); simp [e1, e2]; first | done | omega)
    · first | exact HBv9b.out | exact HBv9.out | exact HBv8.out | exact HBv7.out
set_option maxHeartbeats 8000000 in
set_option maxRecDepth 100000 in
theorem placed_1 (d dev dto kd xm key tid lo hi nn : Int) (A4 A11 A12 : Option Addr) (n4 c4 n11 c11 n12 c12 : Nat) (s r : Int) (A : Option Addr) (c m : Nat) (B : Option Addr) (bm bc : Nat) (w : World) (b1 : inS true dev m = true) (b2 : inS false dto m = true) (hs1 : hasS d 100 = true) (hs2 : hasS d 116 = false) (hs3 : hasS d 107 = true) (hs4 : hasS d 105 = false) (hs5 : hasS d 114 = false) :
    Calls Tryd.prog 36 #[.agg #[.int .i64 s, .int .i64 r, .slice A m c, .slice B bm bc], .agg #[.int .i64 d, .int .i64 dev, .int .i64 dto, .int .i64 kd, .slice A4 n4 c4, .int .u32 xm, .int .u32 key, .int .u32 tid, .int .u64 lo, .int .u64 hi, .int .i64 nn, .slice A11 n11 c11, .slice A12 n12 c12]] w fun e w' => e = .returned (.bool (placeB true false true false false dev dto key tid lo hi m)) ∧ Below w.heap.size w w' := by
  have hu38 := Tryd.underlying38
  have cd := Lib.hid (has_t hs1)
  have ct := Lib.hid (has_f hs2)
  have ck := Lib.hid (has_t hs3)
  have ci := Lib.hid (has_f hs4)
  have cr := Lib.hid (has_f hs5)
  clear hs1 hs2 hs3 hs4 hs5
  have i1 := Lib.hid (@c_inB _ _ _ _ b1)
  have i2 := Lib.hid (@c_inB _ _ _ _ b2)
  rw [placeB_4 b1 b2 (.inl rfl)]
  clear b1 b2
  go_enter Tryd.func36, Tryd.ntmps36
  go_wp2
  have HR1 : Aside0 (((w.alloc (.cells #[.int .i64 s, .int .i64 r, .slice A m c, .slice B bm bc] 33)).alloc (.cells #[.int .i64 d, .int .i64 dev, .int .i64 dto, .int .i64 kd, .slice A4 n4 c4, .int .u32 xm, .int .u32 key, .int .u32 tid, .int .u64 lo, .int .u64 hi, .int .i64 nn, .slice A11 n11 c11, .slice A12 n12 c12] 42)).heap[w.heap.size]? = some (.cells #[.int .i64 s, .int .i64 r, .slice A m c, .slice B bm bc] 33)) := ⟨knew (heap_alloc_new w _)⟩
  have HR2 : Aside0 (((w.alloc (.cells #[.int .i64 s, .int .i64 r, .slice A m c, .slice B bm bc] 33)).alloc (.cells #[.int .i64 d, .int .i64 dev, .int .i64 dto, .int .i64 kd, .slice A4 n4 c4, .int .u32 xm, .int .u32 key, .int .u32 tid, .int .u64 lo, .int .u64 hi, .int .i64 nn, .slice A11 n11 c11, .slice A12 n12 c12] 42)).heap[w.heap.size + 1]? = some (.cells #[.int .i64 d, .int .i64 dev, .int .i64 dto, .int .i64 kd, .slice A4 n4 c4, .int .u32 xm, .int .u32 key, .int .u32 tid, .int .u64 lo, .int .u64 hi, .int .i64 nn, .slice A11 n11 c11, .slice A12 n12 c12] 42)) := ⟨by have h := heap_alloc_new (w.alloc (.cells #[.int .i64 s, .int .i64 r, .slice A m c, .slice B bm bc] 33)) (.cells #[.int .i64 d, .int .i64 dev, .int .i64 dto, .int .i64 kd, .slice A4 n4 c4, .int .u32 xm, .int .u32 key, .int .u32 tid, .int .u64 lo, .int .u64 hi, .int .i64 nn, .slice A11 n11 c11, .slice A12 n12 c12] 42); simpa using h⟩
  have HB : Aside0 (Below w.heap.size w ((w.alloc (.cells #[.int .i64 s, .int .i64 r, .slice A m c, .slice B bm bc] 33)).alloc (.cells #[.int .i64 d, .int .i64 dev, .int .i64 dto, .int .i64 kd, .slice A4 n4 c4, .int .u32 xm, .int .u32 key, .int .u32 tid, .int .u64 lo, .int .u64 hi, .int .i64 nn, .slice A11 n11 c11, .slice A12 n12 c12] 42))) := ⟨(((Below.refl w.heap.size w).alloc (Nat.le_refl _) _).alloc (by simp) _)⟩
  generalize ((w.alloc (.cells #[.int .i64 s, .int .i64 r, .slice A m c, .slice B bm bc] 33)).alloc (.cells #[.int .i64 d, .int .i64 dev, .int .i64 dto, .int .i64 kd, .slice A4 n4 c4, .int .u32 xm, .int .u32 key, .int .u32 tid, .int .u64 lo, .int .u64 hi, .int .i64 nn, .slice A11 n11 c11, .slice A12 n12 c12] 42)) = v1 at *
  have hz : w.heap.size + 1 < v1.heap.size := (Array.getElem?_eq_some_iff.1 HR2.out).1
  have e0 : v1.cell? ⟨w.heap.size + 1, 0, none⟩ = some (.int .i64 d) := blk_cell HR2.out 0
  have e1 : v1.cell? ⟨w.heap.size + 1, 1, none⟩ = some (.int .i64 dev) := blk_cell HR2.out 1
  have e2 : v1.cell? ⟨w.heap.size + 1, 2, none⟩ = some (.int .i64 dto) := blk_cell HR2.out 2
  have en : v1.cell? ⟨w.heap.size, 2, none⟩ = some (.slice A m c) := blk_cell HR1.out 2
  refine wp_region_held_drew (S := (fun W => W.cell? ⟨w.heap.size + 1, 0, none⟩ = some (.int .i64 d) ∧ W.cell? ⟨w.heap.size + 1, 1, none⟩ = some (.int .i64 dev) ∧ W.cell? ⟨w.heap.size + 1, 2, none⟩ = some (.int .i64 dto) ∧ W.cell? ⟨w.heap.size, 2, none⟩ = some (.slice A m c) ∧ Aside0 (Below w.heap.size w W) ∧ w.heap.size + 1 < W.heap.size ∧ Aside0 (W.heap[w.heap.size]? = some (.cells #[.int .i64 s, .int .i64 r, .slice A m c, .slice B bm bc] 33)) ∧ Aside0 (W.heap[w.heap.size + 1]? = some (.cells #[.int .i64 d, .int .i64 dev, .int .i64 dto, .int .i64 kd, .slice A4 n4 c4, .int .u32 xm, .int .u32 key, .int .u32 tid, .int .u64 lo, .int .u64 hi, .int .i64 nn, .slice A11 n11 c11, .slice A12 n12 c12] 42)))) (by kernel_rfl) ?_ (fun hHeld => ?_)
  · try dsimp only
    exact ⟨e0, e1, e2, en, ⟨HB.out.drew⟩, hz, HR1, HR2⟩
  refine wpAnyH_take (i := 0) (v := ?_) rfl (by kernel_rfl) (by kernel_rfl) (by kernel_rfl) (fun _ _ _ h => h) (Or.inl ⟨by rfl, ?_⟩) (by assumption) ?_
  rotate_left
  · intro w hSw
    try dsimp only at hSw
    go_simp
    try with_reducible rfl
  try simp only [Act.put, List.setIfInBounds_toArray, List.set_cons_zero, List.set_cons_succ, List.getElem_toArray, List.getElem_cons_succ, List.getElem_cons_zero]
  refine wpAnyH_take (i := 1) (v := ?_) rfl (by kernel_rfl) (by kernel_rfl) (by kernel_rfl) (fun _ _ _ h => h) (Or.inl ⟨by rfl, ?_⟩) (by assumption) ?_
  rotate_left
  · intro w hSw
    try dsimp only at hSw
    go_simp
    try with_reducible rfl
  try simp only [Act.put, List.setIfInBounds_toArray, List.set_cons_zero, List.set_cons_succ, List.getElem_toArray, List.getElem_cons_succ, List.getElem_cons_zero]
  refine wpAnyH_take (i := 2) (v := ?_) rfl (by kernel_rfl) (by kernel_rfl) (by kernel_rfl) (fun _ _ _ h => h) (Or.inl ⟨by rfl, ?_⟩) (by assumption) ?_
  rotate_left
  · intro w hSw
    try dsimp only at hSw
    go_simp
    try with_reducible rfl
  try simp only [Act.put, List.setIfInBounds_toArray, List.set_cons_zero, List.set_cons_succ, List.getElem_toArray, List.getElem_cons_succ, List.getElem_cons_zero]
  refine wpAnyH_take (i := 4) (v := ?_) rfl (by kernel_rfl) (by kernel_rfl) (by kernel_rfl) (fun _ _ _ h => h) (Or.inl ⟨by rfl, ?_⟩) (by assumption) ?_
  rotate_left
  · intro w hSw
    try dsimp only at hSw
    go_simp
    try with_reducible rfl
  try simp only [Act.put, List.setIfInBounds_toArray, List.set_cons_zero, List.set_cons_succ, List.getElem_toArray, List.getElem_cons_succ, List.getElem_cons_zero]
  refine wpAnyH_take (i := 5) (v := ?_) rfl (by kernel_rfl) (by kernel_rfl) (by kernel_rfl) (fun _ _ _ h => h) (Or.inl ⟨by rfl, ?_⟩) (by assumption) ?_
  rotate_left
  · intro w hSw
    try dsimp only at hSw
    go_simp
    try with_reducible rfl
  try simp only [Act.put, List.setIfInBounds_toArray, List.set_cons_zero, List.set_cons_succ, List.getElem_toArray, List.getElem_cons_succ, List.getElem_cons_zero]
  refine wpAnyH_ready (rs := [3]) (by kernel_rfl) (by simp) ?_
  refine AllReadyH.cons rfl (fun K hK => ?_) AllReadyH.nil
  go_simp
  go_at_call 46
  with_reducible refine (cd.out _).mono ?_
  rintro e v2 ⟨rfl, hbz⟩
  try go_wp2_with fail
  refine hK.out _ _ ?_ ?_
  · try dsimp only
    obtain ⟨g0, g1, g2, g3, g4, g5, g6, g7⟩ := hHeld
    exact keepP g0 g1 g2 g3 g4 g5 g6 g7 hbz
  clear hHeld hbz hK K
  intro hHeld
  try simp only [Act.put, List.setIfInBounds_toArray, List.set_cons_zero, List.set_cons_succ, List.getElem_toArray, List.getElem_cons_succ, List.getElem_cons_zero]
  refine wpAnyH_ready (rs := [6]) (by kernel_rfl) (by simp) ?_
  refine AllReadyH.cons rfl (fun K hK => ?_) AllReadyH.nil
  go_simp
  go_at_call 49
  with_reducible refine (i1.out _ _ _ _ hHeld.2.2.2.1).mono ?_
  rintro e v3 ⟨rfl, hbz⟩
  try go_wp2_with fail
  refine hK.out _ _ ?_ ?_
  · try dsimp only
    obtain ⟨g0, g1, g2, g3, g4, g5, g6, g7⟩ := hHeld
    exact keepP g0 g1 g2 g3 g4 g5 g6 g7 hbz
  clear hHeld hbz hK K
  intro hHeld
  try simp only [Act.put, List.setIfInBounds_toArray, List.set_cons_zero, List.set_cons_succ, List.getElem_toArray, List.getElem_cons_succ, List.getElem_cons_zero]
  refine wpAnyH_take (i := 7) (v := ?_) rfl (by kernel_rfl) (by kernel_rfl) (by kernel_rfl) (fun _ _ _ h => h) (Or.inl ⟨by rfl, ?_⟩) (by assumption) ?_
  rotate_left
  · intro w hSw
    try dsimp only at hSw
    go_simp
    try with_reducible rfl
  try simp only [Act.put, List.setIfInBounds_toArray, List.set_cons_zero, List.set_cons_succ, List.getElem_toArray, List.getElem_cons_succ, List.getElem_cons_zero]
  refine wpAnyH_take (i := 8) (v := ?_) rfl (by kernel_rfl) (by kernel_rfl) (by kernel_rfl) (fun _ _ _ h => h) (Or.inl ⟨by rfl, ?_⟩) (by assumption) ?_
  rotate_left
  · intro w hSw
    try dsimp only at hSw
    go_simp
    try with_reducible rfl
  try simp only [Act.put, List.setIfInBounds_toArray, List.set_cons_zero, List.set_cons_succ, List.getElem_toArray, List.getElem_cons_succ, List.getElem_cons_zero]
  refine wpAnyH_take (i := 9) (v := ?_) rfl (by kernel_rfl) (by kernel_rfl) (by kernel_rfl) (fun _ _ _ h => h) (Or.inl ⟨by rfl, ?_⟩) (by assumption) ?_
  rotate_left
  · intro w hSw
    try dsimp only at hSw
    go_simp
    try with_reducible rfl
  try simp only [Act.put, List.setIfInBounds_toArray, List.set_cons_zero, List.set_cons_succ, List.getElem_toArray, List.getElem_cons_succ, List.getElem_cons_zero]
  refine wpAnyH_take (i := 10) (v := ?_) rfl (by kernel_rfl) (by kernel_rfl) (by kernel_rfl) (fun _ _ _ h => h) (Or.inl ⟨by rfl, ?_⟩) (by assumption) ?_
  rotate_left
  · intro w hSw
    try dsimp only at hSw
    go_simp
    try with_reducible rfl
  try simp only [Act.put, List.setIfInBounds_toArray, List.set_cons_zero, List.set_cons_succ, List.getElem_toArray, List.getElem_cons_succ, List.getElem_cons_zero]
  refine wpAnyH_take (i := 11) (v := ?_) rfl (by kernel_rfl) (by kernel_rfl) (by kernel_rfl) (fun _ _ _ h => h) (Or.inl ⟨by rfl, ?_⟩) (by assumption) ?_
  rotate_left
  · intro w hSw
    try dsimp only at hSw
    go_simp
    try with_reducible rfl
  try simp only [Act.put, List.setIfInBounds_toArray, List.set_cons_zero, List.set_cons_succ, List.getElem_toArray, List.getElem_cons_succ, List.getElem_cons_zero]
  refine wpAnyH_take (i := 13) (v := ?_) rfl (by kernel_rfl) (by kernel_rfl) (by kernel_rfl) (fun _ _ _ h => h) (Or.inl ⟨by rfl, ?_⟩) (by assumption) ?_
  rotate_left
  · intro w hSw
    try dsimp only at hSw
    go_simp
    try with_reducible rfl
  try simp only [Act.put, List.setIfInBounds_toArray, List.set_cons_zero, List.set_cons_succ, List.getElem_toArray, List.getElem_cons_succ, List.getElem_cons_zero]
  refine wpAnyH_take (i := 14) (v := ?_) rfl (by kernel_rfl) (by kernel_rfl) (by kernel_rfl) (fun _ _ _ h => h) (Or.inl ⟨by rfl, ?_⟩) (by assumption) ?_
  rotate_left
  · intro w hSw
    try dsimp only at hSw
    go_simp
    try with_reducible rfl
  try simp only [Act.put, List.setIfInBounds_toArray, List.set_cons_zero, List.set_cons_succ, List.getElem_toArray, List.getElem_cons_succ, List.getElem_cons_zero]
  refine wpAnyH_ready (rs := [12]) (by kernel_rfl) (by simp) ?_
  refine AllReadyH.cons rfl (fun K hK => ?_) AllReadyH.nil
  go_simp
  go_at_call 46
  with_reducible refine (ct.out _).mono ?_
  rintro e v4 ⟨rfl, hbz⟩
  try go_wp2_with fail
  refine hK.out _ _ ?_ ?_
  · try dsimp only
    obtain ⟨g0, g1, g2, g3, g4, g5, g6, g7⟩ := hHeld
    exact keepP g0 g1 g2 g3 g4 g5 g6 g7 hbz
  clear hHeld hbz hK K
  intro hHeld
  try simp only [Act.put, List.setIfInBounds_toArray, List.set_cons_zero, List.set_cons_succ, List.getElem_toArray, List.getElem_cons_succ, List.getElem_cons_zero]
  refine wpAnyH_ready (rs := [15]) (by kernel_rfl) (by simp) ?_
  refine AllReadyH.cons rfl (fun K hK => ?_) AllReadyH.nil
  go_simp
  go_at_call 49
  with_reducible refine (i2.out _ _ _ _ hHeld.2.2.2.1).mono ?_
  rintro e v5 ⟨rfl, hbz⟩
  try go_wp2_with fail
  refine hK.out _ _ ?_ ?_
  · try dsimp only
    obtain ⟨g0, g1, g2, g3, g4, g5, g6, g7⟩ := hHeld
    exact keepP g0 g1 g2 g3 g4 g5 g6 g7 hbz
  clear hHeld hbz hK K
  intro hHeld
  try simp only [Act.put, List.setIfInBounds_toArray, List.set_cons_zero, List.set_cons_succ, List.getElem_toArray, List.getElem_cons_succ, List.getElem_cons_zero]
  refine wpAnyH_take (i := 16) (v := ?_) rfl (by kernel_rfl) (by kernel_rfl) (by kernel_rfl) (fun _ _ _ h => h) (Or.inl ⟨by rfl, ?_⟩) (by assumption) ?_
  rotate_left
  · intro w hSw
    try dsimp only at hSw
    go_simp
    try with_reducible rfl
  try simp only [Act.put, List.setIfInBounds_toArray, List.set_cons_zero, List.set_cons_succ, List.getElem_toArray, List.getElem_cons_succ, List.getElem_cons_zero]
  refine wpAnyH_take (i := 17) (v := ?_) rfl (by kernel_rfl) (by kernel_rfl) (by kernel_rfl) (fun _ _ _ h => h) (Or.inl ⟨by rfl, ?_⟩) (by assumption) ?_
  rotate_left
  · intro w hSw
    try dsimp only at hSw
    go_simp
    try with_reducible rfl
  try simp only [Act.put, List.setIfInBounds_toArray, List.set_cons_zero, List.set_cons_succ, List.getElem_toArray, List.getElem_cons_succ, List.getElem_cons_zero]
  refine wpAnyH_take (i := 18) (v := ?_) rfl (by kernel_rfl) (by kernel_rfl) (by kernel_rfl) (fun _ _ _ h => h) (Or.inl ⟨by rfl, ?_⟩) (by assumption) ?_
  rotate_left
  · intro w hSw
    try dsimp only at hSw
    go_simp
    try with_reducible rfl
  try simp only [Act.put, List.setIfInBounds_toArray, List.set_cons_zero, List.set_cons_succ, List.getElem_toArray, List.getElem_cons_succ, List.getElem_cons_zero]
  refine wpAnyH_take (i := 19) (v := ?_) rfl (by kernel_rfl) (by kernel_rfl) (by kernel_rfl) (fun _ _ _ h => h) (Or.inl ⟨by rfl, ?_⟩) (by assumption) ?_
  rotate_left
  · intro w hSw
    try dsimp only at hSw
    go_simp
    try with_reducible rfl
  try simp only [Act.put, List.setIfInBounds_toArray, List.set_cons_zero, List.set_cons_succ, List.getElem_toArray, List.getElem_cons_succ, List.getElem_cons_zero]
  refine wpAnyH_take (i := 20) (v := ?_) rfl (by kernel_rfl) (by kernel_rfl) (by kernel_rfl) (fun _ _ _ h => h) (Or.inl ⟨by rfl, ?_⟩) (by assumption) ?_
  rotate_left
  · intro w hSw
    try dsimp only at hSw
    go_simp
    try with_reducible rfl
  try simp only [Act.put, List.setIfInBounds_toArray, List.set_cons_zero, List.set_cons_succ, List.getElem_toArray, List.getElem_cons_succ, List.getElem_cons_zero]
  refine wpAnyH_ready (rs := [21]) (by kernel_rfl) (by simp) ?_
  refine AllReadyH.cons rfl (fun K hK => ?_) AllReadyH.nil
  go_simp
  go_at_call 46
  with_reducible refine (ct.out _).mono ?_
  rintro e v6 ⟨rfl, hbz⟩
  try go_wp2_with fail
  refine hK.out _ _ ?_ ?_
  · try dsimp only
    obtain ⟨g0, g1, g2, g3, g4, g5, g6, g7⟩ := hHeld
    exact keepP g0 g1 g2 g3 g4 g5 g6 g7 hbz
  clear hHeld hbz hK K
  intro hHeld
  try simp only [Act.put, List.setIfInBounds_toArray, List.set_cons_zero, List.set_cons_succ, List.getElem_toArray, List.getElem_cons_succ, List.getElem_cons_zero]
  refine wpAnyH_take (i := 22) (v := ?_) rfl (by kernel_rfl) (by kernel_rfl) (by kernel_rfl) (fun _ _ _ h => h) (Or.inl ⟨by rfl, ?_⟩) (by assumption) ?_
  rotate_left
  · intro w hSw
    try dsimp only at hSw
    go_simp
    try with_reducible rfl
  try simp only [Act.put, List.setIfInBounds_toArray, List.set_cons_zero, List.set_cons_succ, List.getElem_toArray, List.getElem_cons_succ, List.getElem_cons_zero]
  refine wpAnyH_take (i := 23) (v := undef) rfl (by kernel_rfl) (by kernel_rfl) (by kernel_rfl) (fun _ _ _ h => h) (Or.inr ⟨by rfl, rfl⟩) (by assumption) ?_
  try simp only [Act.put, List.setIfInBounds_toArray, List.set_cons_zero, List.set_cons_succ, List.getElem_toArray, List.getElem_cons_succ, List.getElem_cons_zero]
  refine wpAnyH_take (i := 24) (v := undef) rfl (by kernel_rfl) (by kernel_rfl) (by kernel_rfl) (fun _ _ _ h => h) (Or.inr ⟨by rfl, rfl⟩) (by assumption) ?_
  try simp only [Act.put, List.setIfInBounds_toArray, List.set_cons_zero, List.set_cons_succ, List.getElem_toArray, List.getElem_cons_succ, List.getElem_cons_zero]
  refine wpAnyH_take (i := 25) (v := undef) rfl (by kernel_rfl) (by kernel_rfl) (by kernel_rfl) (fun _ _ _ h => h) (Or.inr ⟨by rfl, rfl⟩) (by assumption) ?_
  try simp only [Act.put, List.setIfInBounds_toArray, List.set_cons_zero, List.set_cons_succ, List.getElem_toArray, List.getElem_cons_succ, List.getElem_cons_zero]
  refine wpAnyH_take (i := 26) (v := undef) rfl (by kernel_rfl) (by kernel_rfl) (by kernel_rfl) (fun _ _ _ h => h) (Or.inr ⟨by rfl, rfl⟩) (by assumption) ?_
  try simp only [Act.put, List.setIfInBounds_toArray, List.set_cons_zero, List.set_cons_succ, List.getElem_toArray, List.getElem_cons_succ, List.getElem_cons_zero]
  refine wpAnyH_take (i := 27) (v := undef) rfl (by kernel_rfl) (by kernel_rfl) (by kernel_rfl) (fun _ _ _ h => h) (Or.inr ⟨by rfl, rfl⟩) (by assumption) ?_
  try simp only [Act.put, List.setIfInBounds_toArray, List.set_cons_zero, List.set_cons_succ, List.getElem_toArray, List.getElem_cons_succ, List.getElem_cons_zero]
  refine wpAnyH_take (i := 28) (v := ?_) rfl (by kernel_rfl) (by kernel_rfl) (by kernel_rfl) (fun _ _ _ h => h) (Or.inl ⟨by rfl, ?_⟩) (by assumption) ?_
  rotate_left
  · intro w hSw
    try dsimp only at hSw
    go_simp
    try with_reducible rfl
  try simp only [Act.put, List.setIfInBounds_toArray, List.set_cons_zero, List.set_cons_succ, List.getElem_toArray, List.getElem_cons_succ, List.getElem_cons_zero]
  refine wpAnyH_take (i := 29) (v := ?_) rfl (by kernel_rfl) (by kernel_rfl) (by kernel_rfl) (fun _ _ _ h => h) (Or.inl ⟨by rfl, ?_⟩) (by assumption) ?_
  rotate_left
  · intro w hSw
    try dsimp only at hSw
    go_simp
    try with_reducible rfl
  try simp only [Act.put, List.setIfInBounds_toArray, List.set_cons_zero, List.set_cons_succ, List.getElem_toArray, List.getElem_cons_succ, List.getElem_cons_zero]
  refine wpAnyH_done (by kernel_rfl) ?_ _
  obtain ⟨g0, g1, g2, g3, HBx, g5, HR1x, HRx⟩ := hHeld
  clear e0 e1 e2 en hz HR1 HR2 HB g0 g1 g2 g3 g5 HR1x cd ct i1 i2
  have q0_v6 : v6.cell? ⟨w.heap.size + 1, 0, none⟩ = some (.int .i64 d) := blk_cell HRx.out 0
  have q6_v6 : v6.cell? ⟨w.heap.size + 1, 6, none⟩ = some (.int .u32 key) := blk_cell HRx.out 6
  have q7_v6 : v6.cell? ⟨w.heap.size + 1, 7, none⟩ = some (.int .u32 tid) := blk_cell HRx.out 7
  have q8_v6 : v6.cell? ⟨w.heap.size + 1, 8, none⟩ = some (.int .u64 lo) := blk_cell HRx.out 8
  have q9_v6 : v6.cell? ⟨w.heap.size + 1, 9, none⟩ = some (.int .u64 hi) := blk_cell HRx.out 9
  go_wp2_with (first
    | (go_at_call 46
       with_reducible refine (ck.out _).mono ?_
       rintro e v7 ⟨rfl, hbz⟩
       have HRv7 := Aside0.mk (krow HRx.out hbz)
       have HBv7 := Aside0.mk (HBx.out.trans (hbz.mono HBx.out.size))
       clear hbz
       have q0_v7 : v7.cell? ⟨w.heap.size + 1, 0, none⟩ = some (.int .i64 d) := blk_cell HRv7.out 0
       have q6_v7 : v7.cell? ⟨w.heap.size + 1, 6, none⟩ = some (.int .u32 key) := blk_cell HRv7.out 6
       have q7_v7 : v7.cell? ⟨w.heap.size + 1, 7, none⟩ = some (.int .u32 tid) := blk_cell HRv7.out 7
       have q8_v7 : v7.cell? ⟨w.heap.size + 1, 8, none⟩ = some (.int .u64 lo) := blk_cell HRv7.out 8
       have q9_v7 : v7.cell? ⟨w.heap.size + 1, 9, none⟩ = some (.int .u64 hi) := blk_cell HRv7.out 9)
    | (go_at_call 46
       with_reducible refine (ci.out _).mono ?_
       rintro e v8 ⟨rfl, hbz⟩
       have HRv8 := Aside0.mk (krow HRv7.out hbz)
       have HBv8 := Aside0.mk (HBv7.out.trans (hbz.mono HBv7.out.size))
       clear hbz
       have q0_v8 : v8.cell? ⟨w.heap.size + 1, 0, none⟩ = some (.int .i64 d) := blk_cell HRv8.out 0
       have q6_v8 : v8.cell? ⟨w.heap.size + 1, 6, none⟩ = some (.int .u32 key) := blk_cell HRv8.out 6
       have q7_v8 : v8.cell? ⟨w.heap.size + 1, 7, none⟩ = some (.int .u32 tid) := blk_cell HRv8.out 7
       have q8_v8 : v8.cell? ⟨w.heap.size + 1, 8, none⟩ = some (.int .u64 lo) := blk_cell HRv8.out 8
       have q9_v8 : v8.cell? ⟨w.heap.size + 1, 9, none⟩ = some (.int .u64 hi) := blk_cell HRv8.out 9)
    | (go_at_call 46
       with_reducible refine (cr.out _).mono ?_
       rintro e v9 ⟨rfl, hbz⟩
       have HRv9 := Aside0.mk (krow HRv8.out hbz)
       have HBv9 := Aside0.mk (HBv8.out.trans (hbz.mono HBv8.out.size))
       clear hbz
       have q0_v9 : v9.cell? ⟨w.heap.size + 1, 0, none⟩ = some (.int .i64 d) := blk_cell HRv9.out 0
       have q6_v9 : v9.cell? ⟨w.heap.size + 1, 6, none⟩ = some (.int .u32 key) := blk_cell HRv9.out 6
       have q7_v9 : v9.cell? ⟨w.heap.size + 1, 7, none⟩ = some (.int .u32 tid) := blk_cell HRv9.out 7
       have q8_v9 : v9.cell? ⟨w.heap.size + 1, 8, none⟩ = some (.int .u64 lo) := blk_cell HRv9.out 8
       have q9_v9 : v9.cell? ⟨w.heap.size + 1, 9, none⟩ = some (.int .u64 hi) := blk_cell HRv9.out 9)
    | fail)
  all_goals
    go_ret
    refine ⟨ret_bool ?_, ?_⟩
    · first
        | (simp; done)
        | (simp; omega)
        | (have e1 : tid ≠ 0 := bne_iff_ne.1 (by assumption); simp [e1]; done)
        | (have e1 : key ≠ 0 := bne_iff_ne.1 (by assumption); simp [e1]; done)
        | (have e1 : tid = 0 := bne_eq_false_iff_eq.1 (by assumption); simp [e1]; first | done | omega)
        | (have e1 : key = 0 := bne_eq_false_iff_eq.1 (by assumption); simp [e1]; first | done | omega)
        | (have e1 : key = 0 := bne_eq_false_iff_eq.1 (by assumption); have e2 : tid = 0 := bne_eq_false_iff_eq.1 (by assumption); simp [e1, e2]; first | done | omega)
    · first | exact HBv9b.out | exact HBv9.out | exact HBv8.out | exact HBv7.out
def placedS (d dev dto key tid lo hi : Int) (m : Nat) : Bool := placeB (hasS d 100) (hasS d 116) (hasS d 107) (hasS d 105) (hasS d 114) dev dto key tid lo hi m
def script_placed.f (a0_0 : Int) (a0_1 : Int) (l0_2 : List ByteArray) (l0_3 : List (S42)) (a1_0 : Int) (a1_1 : Int) (a1_2 : Int) (a1_3 : Int) (l1_4 : List (S72)) (a1_5 : Int) (a1_6 : Int) (a1_7 : Int) (a1_8 : Int) (a1_9 : Int) (a1_10 : Int) (l1_11 : List Int) (l1_12 : List Bool) : Option Bool := if inS true a1_1 l0_2.length = true ∧ inS false a1_2 l0_2.length = true ∧ hasS a1_0 100 = true ∧ hasS a1_0 116 = false ∧ hasS a1_0 105 = false ∧ hasS a1_0 114 = false then some (placedS a1_0 a1_1 a1_2 a1_6 a1_7 a1_8 a1_9 l0_2.length) else none
theorem script_placed.calls (a0_0 : Int) (a0_1 : Int) (A0_2 : Option Addr) (c0_2 : Nat) (l0_2 : List ByteArray) (A0_3 : Option Addr) (c0_3 : Nat) (l0_3 : List (S42)) (a1_0 : Int) (a1_1 : Int) (a1_2 : Int) (a1_3 : Int) (A1_4 : Option Addr) (c1_4 : Nat) (l1_4 : List (S72)) (a1_5 : Int) (a1_6 : Int) (a1_7 : Int) (a1_8 : Int) (a1_9 : Int) (a1_10 : Int) (A1_11 : Option Addr) (c1_11 : Nat) (l1_11 : List Int) (A1_12 : Option Addr) (c1_12 : Nat) (l1_12 : List Bool) (r : Bool) (w : World) (hr0_2 : Kd.C Kd.string w A0_2 l0_2.length l0_2) (hc0_2 : l0_2.length ≤ c0_2) (hr0_3 : Kd.C k42 w A0_3 l0_3.length l0_3) (hc0_3 : l0_3.length ≤ c0_3) (hr1_4 : Kd.C k72 w A1_4 l1_4.length l1_4) (hc1_4 : l1_4.length ≤ c1_4) (hr1_11 : Kd.C (Kd.int .u8) w A1_11 l1_11.length l1_11) (hc1_11 : l1_11.length ≤ c1_11) (hr1_12 : Kd.C Kd.bool w A1_12 l1_12.length l1_12) (hc1_12 : l1_12.length ≤ c1_12) (h : script_placed.f a0_0 a0_1 l0_2 l0_3 a1_0 a1_1 a1_2 a1_3 l1_4 a1_5 a1_6 a1_7 a1_8 a1_9 a1_10 l1_11 l1_12 = some r) :
    Calls Tryd.prog 36 #[.agg #[.int .i64 a0_0, .int .i64 a0_1, .slice A0_2 l0_2.length c0_2, .slice A0_3 l0_3.length c0_3], .agg #[.int .i64 a1_0, .int .i64 a1_1, .int .i64 a1_2, .int .i64 a1_3, .slice A1_4 l1_4.length c1_4, .int .u32 a1_5, .int .u32 a1_6, .int .u32 a1_7, .int .u64 a1_8, .int .u64 a1_9, .int .i64 a1_10, .slice A1_11 l1_11.length c1_11, .slice A1_12 l1_12.length c1_12]] w fun e w' => e = .returned (.bool r) ∧ Below w.heap.size w w' := by
  unfold script_placed.f at h
  by_cases h0 : inS true a1_1 l0_2.length = true ∧ inS false a1_2 l0_2.length = true ∧ hasS a1_0 100 = true ∧ hasS a1_0 116 = false ∧ hasS a1_0 105 = false ∧ hasS a1_0 114 = false
  · rw [if_pos h0] at h
    obtain rfl := Option.some.inj h
    obtain ⟨b1, b2, h1, h2, h4, h5⟩ := h0
    unfold placedS
    rw [h1, h2, h4, h5]
    cases h3 : hasS a1_0 107 with
    | false => exact placed_0 a1_0 a1_1 a1_2 a1_3 a1_5 a1_6 a1_7 a1_8 a1_9 a1_10 A1_4 A1_11 A1_12 l1_4.length c1_4 l1_11.length c1_11 l1_12.length c1_12 a0_0 a0_1 A0_2 c0_2 l0_2.length A0_3 l0_3.length c0_3 w b1 b2 h1 h2 h3 h4 h5
    | true => exact placed_1 a1_0 a1_1 a1_2 a1_3 a1_5 a1_6 a1_7 a1_8 a1_9 a1_10 A1_4 A1_11 A1_12 l1_4.length c1_4 l1_11.length c1_11 l1_12.length c1_12 a0_0 a0_1 A0_2 c0_2 l0_2.length A0_3 l0_3.length c0_3 w b1 b2 h1 h2 h3 h4 h5
  · rw [if_neg h0] at h; cases h
end Go.Proofs.YtpdinahdcedmkaaDoor.ExtQ

