import Derived.Test.YtpdinahdcedmkaaDoorMRead
/- script.put of a device and of marks. -/
namespace Go.Proofs.YtpdinahdcedmkaaDoor.ExtQ
open Go.Proofs.YtpdinahdcedmkaaDoor.Ext
set_option linter.unusedVariables false
set_option linter.unusedSimpArgs false
open Go.RowKit Go.Proofs.YtpdinahdcedmkaaDoorW.PrintLast Go.Proofs.YtpdinahdcedmkaaDoorW.PrintMore
open Go.Proofs.YtpdinahdcedmkaaDoorW.PrintWords hiding blk_cell blk_set nums_append
theorem as_int (v : Value) (w : World) : (Instr.typeAssert (.iface 3 v) 20 3 false).run Tryd.prog w = .ok v w := by kernel_rfl
theorem as_bools (v : Value) (w : World) : (Instr.typeAssert (.iface 40 v) 20 40 false).run Tryd.prog w = .ok v w := by kernel_rfl
set_option maxHeartbeats 2000000 in
set_option maxRecDepth 100000 in
theorem put_d (w : World) (ab : Nat) (u : Value) (n : Int) (h : w.cell? ⟨ab, 1, none⟩ = some u) (hf : w.frozen? ⟨ab, 1, none⟩ = false) :
    Calls Tryd.prog 29 #[.pointer (some ⟨ab, 0, none⟩), .int .i32 100, .iface 3 (.int .i64 n)] w fun e w' => e = .returned (.tuple #[]) ∧ w' = w.setCell ⟨ab, 1, none⟩ (.int .i64 n) := by
  have ha := as_int (.int .i64 n)
  go_enter Tryd.func29, Tryd.ntmps29
  go_wp2
  go_end0
  exact ⟨rfl, rfl⟩
set_option maxHeartbeats 2000000 in
set_option maxRecDepth 100000 in
theorem put_p (w : World) (ab : Nat) (u v : Value) (A : Option Addr) (n c : Nat) (h : w.cell? ⟨ab, 12, none⟩ = some u) (hf : w.frozen? ⟨ab, 12, none⟩ = false) (hv : v = .slice A n c) :
    Calls Tryd.prog 29 #[.pointer (some ⟨ab, 0, none⟩), .int .i32 112, .iface 40 v] w fun e w' => e = .returned (.tuple #[]) ∧ w' = w.setCell ⟨ab, 12, none⟩ v := by
  subst hv
  have ha := as_bools (.slice A n c)
  go_enter Tryd.func29, Tryd.ntmps29
  go_wp2
  go_end0
  exact ⟨rfl, rfl⟩
set_option maxHeartbeats 2000000 in
set_option maxRecDepth 100000 in
theorem value_d (w : World) (g : Nat) (X : Int) (Y : World → Prop) (h : Calls Tryd.prog 38 #[.pointer (some ⟨g, 0, none⟩)] w fun e w' => e = .returned (.int .i64 X) ∧ Y w') :
    Calls Tryd.prog 30 #[.pointer (some ⟨g, 0, none⟩), .int .i32 100] w fun e w' => e = .returned (.iface 3 (.int .i64 X)) ∧ Y w' := by
  have ch := Lib.hid h
  clear h
  go_enter Tryd.func30, Tryd.ntmps30
  go_wp2_with (first
    | (go_at_call 38
       refine ch.out.mono ?_
       rintro e v ⟨rfl, hy⟩
       have HY := Aside0.mk hy
       clear hy)
    | fail)
  go_ret
  exact ⟨rfl, HY.out⟩
/-- the marks of a text -/
def marksOf (l : List (Nat × Nat × Nat)) : List Bool := l.map fun x => decide (x.2.1 = 43)
def trimDot (s : ByteArray) : ByteArray := ⟨(Lib.trimPrefix s.data.toList (⟨#[46]⟩ : ByteArray).data.toList).toArray⟩
def pickOf (s : ByteArray) : List Bool := marksOf (runesOf (trimDot s))
theorem own_bool {w : World} {base : Nat} {v : Value} {l : List Bool} (h : w.ownsRow base 4 1 v l.length (l.map .bool)) : Kd.R Kd.bool 4 w base (fun _ => True) v l := by
  refine ⟨fun _ _ => trivial, l.map .bool, h, ?_, fun j p hj => ?_⟩
  · show _ = _ * 1
    simp
  · show ((l.map Value.bool).drop (j * 1)).take 1 = [Value.bool p]
    rw [Nat.mul_one]
    have hlt : j < l.length := by
      rcases Nat.lt_or_ge j l.length with h | h
      · exact h
      · rw [List.getElem?_eq_none h] at hj; cases hj
    rw [List.getElem?_eq_getElem hlt] at hj
    obtain rfl := Option.some.inj hj
    rw [List.drop_eq_getElem_cons (by simpa using hlt)]
    simp
theorem info_bool : (Tryd.prog.info? 4).map (fun i => (i.zero, i.size, i.bytes)) = some (some (.bool false), 1, 1) := by kernel_rfl
theorem StrAt.step {w w' : World} {A : Option Addr} {l : List ByteArray} {row : Option Nat} (h : StrAt w A l) (hg : w.grownBy w' row) (hrow : ∀ k, row = some k → ∀ cells fr, w.heap[k]? ≠ some (.cells cells 9 fr)) : StrAt w' A l := by
  refine ⟨fun hl => ?_⟩
  obtain ⟨b, i, cells, fr, h1, h2, h3⟩ := h.out hl
  have hb : some b ≠ row := fun e => hrow b e.symm _ _ h2
  have hk := hg.block b (Array.getElem?_eq_some_iff.1 h2).1 hb
  exact ⟨b, i, cells, fr, h1, hk.trans h2, fun j s hj => hg.cell (h3 j s hj) hb⟩
theorem Rdr.step {w w' : World} {g : Nat} {p0 p1 p2 p3 : Value} {l : List ByteArray} {row : Option Nat} (h : Rdr w g p0 p1 p2 p3 l) (hg : w.grownBy w' row) (hrow : ∀ k, row = some k → k ≠ g ∧ ∀ cells fr, w.heap[k]? ≠ some (.cells cells 9 fr)) : Rdr w' g p0 p1 p2 p3 l := by
  obtain ⟨A, c, h1, h2, h3, h4⟩ := h.out
  exact ⟨A, c, (hg.block g (Array.getElem?_eq_some_iff.1 h1).1 (fun e => (hrow g e.symm).1 rfl)).trans h1, h2, h3, h4.step hg (fun k hk => (hrow k hk).2)⟩
theorem grown_more {w W W' : World} {r r' : Option Nat} (h : w.grownBy W r) (hg : W.grownBy W' r') (hn : ∀ k, r' = some k → w.heap.size ≤ k) : w.grownBy W' r :=
  ⟨hg.os.trans h.os, hg.tape.trans h.tape, hg.output.trans h.output, Nat.le_trans h.size hg.size, fun k hk hne => (hg.block k (Nat.lt_of_lt_of_le hk h.size) (fun e => by have := hn k e.symm; omega)).trans (h.block k hk hne)⟩
theorem iterAt_grown (w : World) (k : Nat) (s : ByteArray) (p : Nat) : w.grownBy (w.iterAt k s p) (some k) :=
  ⟨rfl, rfl, rfl, by rw [Lib.iterAt_size]; exact Nat.le_refl _, fun i hi hne => Lib.iterAt_other w k i s p (fun e => hne (by rw [e]))⟩
def PickPost (w : World) (g : Nat) (p0 p1 p2 p3 : Value) (l : List ByteArray) (e : Ending) (w' : World) : Prop := ∃ v, e = .returned (.iface 40 v) ∧ Kd.R Kd.bool 4 w' w.heap.size (fun _ => True) v (pickOf (l.headD ⟨#[]⟩)) ∧ Rdr w' g p0 p1 p2 p3 l.tail ∧ w.grownBy w' (some g)
theorem PickPost.mk {w : World} {g : Nat} {p0 p1 p2 p3 : Value} {l t : List ByteArray} {s : ByteArray} {w' : World} {v : Value} {L : List Bool} (hs : l.headD ⟨#[]⟩ = s) (ht : l.tail = t) (hL : L = pickOf s) (hv : w'.ownsRow w.heap.size 4 1 v L.length (L.map .bool)) (hr : Rdr w' g p0 p1 p2 p3 t) (hg : w.grownBy w' (some g)) : PickPost w g p0 p1 p2 p3 l (.returned (.iface 40 v)) w' := by
  subst hs ht hL
  exact ⟨v, rfl, own_bool hv, hr, hg⟩
theorem trimDot_size (s : ByteArray) : (trimDot s).size ≤ s.size := by
  have : (Lib.trimPrefix s.data.toList (⟨#[46]⟩ : ByteArray).data.toList).length ≤ s.data.toList.length := by
    unfold Lib.trimPrefix
    split
    · rw [List.length_drop]; omega
    · exact Nat.le_refl _
  rw [Array.length_toList] at this
  unfold trimDot
  show (Lib.trimPrefix s.data.toList (⟨#[46]⟩ : ByteArray).data.toList).toArray.size ≤ _
  rw [List.size_toArray]
  exact this
set_option maxHeartbeats 4000000 in
set_option maxRecDepth 100000 in
theorem value_p (w : World) (g : Nat) (p0 p1 p2 p3 : Value) (l : List ByteArray) (h : Rdr w g p0 p1 p2 p3 l) (hz : (l.headD ⟨#[]⟩).size ≤ 1073741824) :
    Calls Tryd.prog 30 #[.pointer (some ⟨g, 0, none⟩), .int .i32 112] w (PickPost w g p0 p1 p2 p3 l) := by
  obtain ⟨i0, hi, hz0, hz1, hz2⟩ := info_parts info_bool
  have cn := Lib.hid (next_any w g p0 p1 p2 p3 l h)
  have hgw : g < w.heap.size := by obtain ⟨_, _, h1, _⟩ := h.out; exact (Array.getElem?_eq_some_iff.1 h1).1
  have HS : Aside0 (l.headD ⟨#[]⟩ = l.headD ⟨#[]⟩) := ⟨rfl⟩
  have HTL : Aside0 (l.tail = l.tail) := ⟨rfl⟩
  generalize hs : l.headD ⟨#[]⟩ = s at *
  generalize ht : l.tail = t at *
  replace HS := Aside0.mk hs
  replace HTL := Aside0.mk ht
  have ct := Lib.hid (fun w => Tryd.strings_TrimPrefix s ⟨#[46]⟩ w)
  have HDT := Aside0.mk (show (⟨(Lib.trimPrefix s.data.toList (⟨#[46]⟩ : ByteArray).data.toList).toArray⟩ : ByteArray) = trimDot s from rfl)
  have hTz := trimDot_size s
  have HPK := Aside0.mk (show marksOf (runesOf (trimDot s)) = pickOf s from rfl)
  rw [HDT.out] at ct
  generalize trimDot s = T at *
  clear h hs ht HDT
  go_enter Tryd.func30, Tryd.ntmps30
  go_wp2_with (first
    | (go_at_call 41
       refine cn.out.mono ?_
       rintro e v ⟨rfl, hr1, hg1⟩
       have HR1 := Aside0.mk hr1
       have HG1 := Aside0.mk hg1
       clear hr1 hg1 cn)
    | (go_at_call 43
       refine (ct.out _).mono ?_
       rintro e v2 ⟨rfl, hv⟩
       obtain rfl := hv.symm
       clear ct)
    | fail)
  go_loopw [11] (fun v11 wr => ∃ (pos fuel : Nat) (L : List Bool), wr.heap[v.heap.size]? = some (.stringIter T pos) ∧ Aside0 (wr.ownsRow w.heap.size 4 1 v11 L.length (L.map .bool)) ∧ Aside0 (L ++ marksOf (rns T fuel pos) = marksOf (runesOf T) ∧ T.size ≤ pos + fuel ∧ pos ≤ T.size) ∧ L.length ≤ pos ∧ Aside0 (Rdr wr g p0 p1 p2 p3 t) ∧ Aside0 (w.grownBy wr (some g))) (fun _ wr => T.size - wr.iterPos v.heap.size)
  case atStart => exact ⟨0, T.size, [], iter_new v T, ⟨World.ownsRow_nil _ _ _ _⟩, ⟨rfl, by omega, by omega⟩, by simp, ⟨HR1.out.below (below_iter v T)⟩, ⟨HG1.out.trans (grown_of_below (below_iter v T) _)⟩⟩
  case round =>
    obtain ⟨pos, fuel, L, hit, HO, HL, hLp, HR, HG⟩ := hrel
    have hvs := HG1.out.size
    by_cases hp : pos < T.size
    · have hw1 := Lib.decode_width_pos T pos hp
      have hwl := width_le T pos hp
      have hnx := fun ty => Lib.run_next_any_at (P := Tryd.prog) wr v.heap.size T pos ty hit hp
      obtain ⟨f2, hf2, he2⟩ := rns_step T fuel pos hp HL.out.2.1
      have HI := Aside0.mk (Lib.iterAt_heap wr v.heap.size T pos (pos + (Utf8.decode T pos).2) hit)
      have HM0 := iter_less hw1 hit hp
      have HMM : Aside0 (T.size - (pos + (Utf8.decode T pos).2) < T.size - wr.iterPos v.heap.size) := ⟨by rwa [iterPos_of HI.out] at HM0⟩
      have HOI := Aside0.mk (row_iterAt HO.out hit (pos + (Utf8.decode T pos).2))
      have HRI := Aside0.mk (HR.out.step (iterAt_grown wr v.heap.size T (pos + (Utf8.decode T pos).2)) (fun k hk => by cases hk; exact ⟨by omega, fun cells fr he => by rw [hit] at he; cases he⟩))
      have HGI := Aside0.mk (grown_more HG.out (iterAt_grown wr v.heap.size T (pos + (Utf8.decode T pos).2)) (fun k hk => by cases hk; exact hvs))
      have HL2 : Aside0 ((L ++ [decide ((Utf8.decode T pos).1 = 43)]) ++ marksOf (rns T f2 (pos + (Utf8.decode T pos).2)) = marksOf (runesOf T)) := ⟨by have := HL.out.1; rw [he2] at this; simpa [marksOf] using this⟩
      clear HM0 HO HR HG HL he2
      generalize hd : Utf8.decode T pos = d at *
      obtain ⟨r, wd⟩ := d
      simp only at *
      have hwl1 := hwl.1
      have HF := Aside0.mk hf2
      have t43 : ((r : Int) == 43) = decide (r = 43) := by by_cases h : r = 43 <;> simp [h]; omega
      have hgi := HGI.out.size
      clear hd hf2
      generalize decide (r = 43) = bb at *
      generalize hWI : wr.iterAt v.heap.size T (pos + wd) = wi at *
      go_wp2_with (first
        | (at_builtin
           refine wpList_append_own _ rfl _ _ 40 rfl w.heap.size 4 i0 _ 1 1 Tryd.underlying40 hi hz0 hz1 hz2 rfl (by decide) _ _ _ rfl (HOI.out.alloc _) ⟨wi.heap.size, 0, none⟩ 1 1 [.bool bb] rfl rfl (World.news_of_block (cs := #[.bool bb]) (t := 4) (fr := (0, 0)) (heap_alloc_new _ _)) (by simp [Value.oneCell']) (by simp only [maxLen]; omega) (by omega) (by simp; omega) ?_
           intro v3 w3 hown3 hg3 hx3
           clear hx3
           have HI3 := Aside0.mk (iter_grown (HOI.out.alloc _) hg3 (iter_alloc HI.out _))
           have HR3 := Aside0.mk (((HRI.out.below ((Below.refl _ _).alloc (Nat.le_refl _) _)).step hg3 (fun k hk => ⟨by have := own_base HOI.out k hk; omega, fun cells fr he => by obtain ⟨c3, h3⟩ := own_typed (HOI.out.alloc _) k hk; rw [h3] at he; cases he⟩)))
           have HG3 := Aside0.mk (grown_more (HGI.out.trans (World.grownBy_alloc wi _ _)) hg3 (fun k hk => own_base HOI.out k hk))
           have HO3 := Aside0.mk hown3
           clear hown3 hg3))
      go_roundw
      case rel => exact ⟨pos + wd, f2, L ++ [bb], HI3.out, ⟨by simpa using HO3.out⟩, ⟨HL2.out, HF.out, hwl1⟩, by simp; omega, HR3, HG3⟩
      case measure => rw [iterPos_of HI3.out]; exact HMM.out
    · have hnx := fun ty => Lib.run_next_end_at (P := Tryd.prog) wr v.heap.size T pos ty hit hp
      have HLL : Aside0 (L = pickOf s) := ⟨by have := HL.out.1; rw [rns_end T fuel pos hp] at this; rw [← HPK.out, ← this]; simp [marksOf]⟩
      go_wp2
      go_ret
      exact PickPost.mk HS.out HTL.out HLL.out HO.out HR.out HG.out
end Go.Proofs.YtpdinahdcedmkaaDoor.ExtQ
/- the number of a row whose name is a line's first word. -/
namespace Go.Proofs.YtpdinahdcedmkaaDoor.ExtQ
open Go.Proofs.YtpdinahdcedmkaaDoor.Ext
set_option linter.unusedVariables false
set_option linter.unusedSimpArgs false
open Go.RowKit Go.Proofs.YtpdinahdcedmkaaDoorW.PrintLast Go.Proofs.YtpdinahdcedmkaaDoorW.PrintMore
open Go.Proofs.YtpdinahdcedmkaaDoorW.PrintWords hiding blk_cell blk_set nums_append

theorem krow2 {w v : World} {b : Nat} {o : Obj} (h : w.heap[b]? = some o) (hb : Below w.heap.size w v) : v.heap[b]? = some o := krow h hb
set_option maxHeartbeats 2000000 in
set_option maxRecDepth 100000 in
theorem row_clo (x y q : ByteArray) (w : World) (wb b i n c : Nat) (R : Bool) (hw : w.cell? ⟨wb, 0, none⟩ = some (.slice (some ⟨b, i, none⟩) n c)) (hn : 0 < n) (hq : w.cell? ⟨b, i, none⟩ = some (.string q)) (hR : (x.toList == q.toList) = R) :
    Calls Tryd.prog 28 #[.agg #[.string x, .string y], .pointer (some ⟨wb, 0, none⟩)] w fun e w' => e = .returned (.bool R) ∧ Below w.heap.size w w' := by
  have h1 : wb < w.heap.size := World.block_lt_of_cell? w _ hw
  have h2 : b < w.heap.size := World.block_lt_of_cell? w _ hq
  have hn1 : (0 : Int) < (n : Int) := by omega
  go_enter Tryd.func28, Tryd.ntmps28
  go_wp2
  refine wp_region_held_drew (S := (fun W => W.cell? ⟨w.heap.size, 0, none⟩ = some (.string x) ∧ W.cell? ⟨wb, 0, none⟩ = some (.slice (some ⟨b, i, none⟩) n c) ∧ W.cell? ⟨b, i, none⟩ = some (.string q) ∧ Aside0 (Below w.heap.size w W))) (by kernel_rfl) ?_ (fun hHeld => ?_)
  · try dsimp only
    exact ⟨blk_cell (heap_alloc_new w (.cells #[.string x, .string y] 54)) 0, ((Below.cell ((Below.refl w.heap.size w).alloc (Nat.le_refl _) (.cells #[.string x, .string y] 54)) (p := ⟨wb, 0, none⟩) h1).trans hw), ((Below.cell ((Below.refl w.heap.size w).alloc (Nat.le_refl _) (.cells #[.string x, .string y] 54)) (p := ⟨b, i, none⟩) h2).trans hq), ⟨((Below.refl w.heap.size w).alloc (Nat.le_refl _) (.cells #[.string x, .string y] 54)).drew⟩⟩
  refine wpAnyH_take (i := 0) (v := ?_) rfl (by kernel_rfl) (by kernel_rfl) (by kernel_rfl) (fun _ _ _ h => h) (Or.inl ⟨by rfl, ?_⟩) (by assumption) ?_
  rotate_left
  · intro w hSw
    try dsimp only at hSw
    go_simp
    try with_reducible rfl
  try simp only [Act.put, List.setIfInBounds_toArray, List.set_cons_zero, List.set_cons_succ, List.getElem_toArray, List.getElem_cons_succ, List.getElem_cons_zero]
  refine wpAnyH_take (i := 1) (v := ?_) rfl (by kernel_rfl) (by kernel_rfl) (by kernel_rfl) (fun _ _ _ h => h) (Or.inl ⟨by rfl, ?_⟩) (by assumption) ?_
  rotate_left
  · intro w hSw
    try dsimp only at hSw
    go_simp
    try with_reducible rfl
  try simp only [Act.put, List.setIfInBounds_toArray, List.set_cons_zero, List.set_cons_succ, List.getElem_toArray, List.getElem_cons_succ, List.getElem_cons_zero]
  refine wpAnyH_take (i := 2) (v := ?_) rfl (by kernel_rfl) (by kernel_rfl) (by kernel_rfl) (fun _ _ _ h => h) (Or.inl ⟨by rfl, ?_⟩) (by assumption) ?_
  rotate_left
  · intro w hSw
    try dsimp only at hSw
    go_simp
    try with_reducible rfl
  try simp only [Act.put, List.setIfInBounds_toArray, List.set_cons_zero, List.set_cons_succ, List.getElem_toArray, List.getElem_cons_succ, List.getElem_cons_zero]
  refine wpAnyH_take (i := 3) (v := ?_) rfl (by kernel_rfl) (by kernel_rfl) (by kernel_rfl) (fun _ _ _ h => h) (Or.inl ⟨by rfl, ?_⟩) (by assumption) ?_
  rotate_left
  · intro w hSw
    try dsimp only at hSw
    go_simp
    try with_reducible rfl
  try simp only [Act.put, List.setIfInBounds_toArray, List.set_cons_zero, List.set_cons_succ, List.getElem_toArray, List.getElem_cons_succ, List.getElem_cons_zero]
  refine wpAnyH_take (i := 4) (v := ?_) rfl (by kernel_rfl) (by kernel_rfl) (by kernel_rfl) (fun _ _ _ h => h) (Or.inl ⟨by rfl, ?_⟩) (by assumption) ?_
  rotate_left
  · intro w hSw
    try dsimp only at hSw
    go_simp
    try with_reducible rfl
  try simp only [Act.put, List.setIfInBounds_toArray, List.set_cons_zero, List.set_cons_succ, List.getElem_toArray, List.getElem_cons_succ, List.getElem_cons_zero]
  refine wpAnyH_take (i := 5) (v := ?_) rfl (by kernel_rfl) (by kernel_rfl) (by kernel_rfl) (fun _ _ _ h => h) (Or.inl ⟨by rfl, ?_⟩) (by assumption) ?_
  rotate_left
  · intro w hSw
    try dsimp only at hSw
    go_simp
    try with_reducible rfl
  try simp only [Act.put, List.setIfInBounds_toArray, List.set_cons_zero, List.set_cons_succ, List.getElem_toArray, List.getElem_cons_succ, List.getElem_cons_zero]
  refine wpAnyH_take (i := 6) (v := ?_) rfl (by kernel_rfl) (by kernel_rfl) (by kernel_rfl) (fun _ _ _ h => h) (Or.inl ⟨by rfl, ?_⟩) (by assumption) ?_
  rotate_left
  · intro w hSw
    try dsimp only at hSw
    go_simp
    try with_reducible rfl
  try simp only [Act.put, List.setIfInBounds_toArray, List.set_cons_zero, List.set_cons_succ, List.getElem_toArray, List.getElem_cons_succ, List.getElem_cons_zero]
  refine wpAnyH_done (by kernel_rfl) ?_ _
  go_wp2
  go_ret
  exact ⟨rfl, hHeld.2.2.2.out⟩
def rowIx (q : ByteArray) : Nat := rowTab.findIdx (fun x => decide (x.1 = q))
def rowI (q : ByteArray) : Int := if rowIx q < 18 then (rowIx q : Int) else -1
theorem rowTab_len : rowTab.length = 18 := by decide
theorem rowIx_hit (q : ByteArray) (i : Nat) (hi : i < 18) (h : (rowTab.getD i (⟨#[]⟩, ⟨#[]⟩)).1 = q) (hn : ∀ j < i, (rowTab.getD j (⟨#[]⟩, ⟨#[]⟩)).1 ≠ q) : rowIx q = i := by
  unfold rowIx
  rw [List.findIdx_eq (by rw [rowTab_len]; exact hi)]
  refine ⟨by rw [List.getD_eq_getElem?_getD, List.getElem?_eq_getElem (by rw [rowTab_len]; exact hi)] at h; simpa using h, fun j hj => ?_⟩
  have := hn j hj
  rw [List.getD_eq_getElem?_getD, List.getElem?_eq_getElem (by rw [rowTab_len]; omega)] at this
  simpa using this
theorem rowIx_none (q : ByteArray) (hn : ∀ j < 18, (rowTab.getD j (⟨#[]⟩, ⟨#[]⟩)).1 ≠ q) : ¬ rowIx q < 18 := by
  intro h
  unfold rowIx at h
  have h' : rowTab.findIdx (fun x => decide (x.1 = q)) < rowTab.length := by rw [rowTab_len]; exact h
  have h1 := List.findIdx_getElem (w := h')
  have h2 := hn _ h
  rw [List.getD_eq_getElem?_getD, List.getElem?_eq_getElem h'] at h2
  exact h2 (by simpa using h1)
set_option maxHeartbeats 4000000 in
set_option maxRecDepth 100000 in
theorem row_ix (q : ByteArray) (w : World) (rb wb b i n c : Nat) (hr : w.heap[rb]? = some (.cells rowC 59)) (hw : w.cell? ⟨wb, 0, none⟩ = some (.slice (some ⟨b, i, none⟩) n c)) (hn : 0 < n) (hq : w.cell? ⟨b, i, none⟩ = some (.string q)) :
    Calls Tryd.prog 27 #[.slice (some ⟨rb, 0, none⟩) 18 18, .func (.func 28) #[] #[.pointer (some ⟨wb, 0, none⟩)]] w fun e w' => e = .returned (.int .i64 (rowI q)) ∧ Below w.heap.size w w' := by
  have HRR := Aside0.mk hr
  have HWW := Aside0.mk hw
  have HQQ := Aside0.mk hq
  clear hr hw hq
  generalize hR : rowI q = R at *
  have HR := Aside0.mk hR
  clear hR
  go_enter Tryd.func27, Tryd.ntmps27
  go_wp2
  go_loopw [8] (fun v8 wr => ∃ k : Nat, k ≤ 18 ∧ v8 = .int .i64 (k : Int) ∧ Aside0 (∀ j < k, (rowTab.getD j (⟨#[]⟩, ⟨#[]⟩)).1 ≠ q) ∧ Aside0 (Below w.heap.size w wr)) (fun v8 _ => 18 - (intOf v8).toNat)
  case atStart => exact ⟨0, by omega, rfl, ⟨fun j hj => absurd hj (by omega)⟩, ⟨Below.refl _ _⟩⟩
  case round =>
    obtain ⟨k, hk, rfl, hN, HB⟩ := hrel
    by_cases hlt : k < 18
    · obtain ⟨x1, x2⟩ := rowC_at k hlt
      have hti : (k : Int) < 18 := by omega
      have hti0 : (0 : Int) ≤ (k : Int) := by omega
      have HRW := Aside0.mk (krow2 HRR.out HB.out)
      have c1 : wr.cell? ⟨rb, k * 2, none⟩ = rowC[k * 2]? := blk_cell HRW.out (k * 2)
      have c2 : wr.cell? ⟨rb, k * 2 + 1, none⟩ = rowC[k * 2 + 1]? := blk_cell HRW.out (k * 2 + 1)
      rw [x1] at c1
      rw [x2] at c2
      obtain ⟨xy, hxy⟩ : ∃ xy, xy = rowTab.getD k (⟨#[]⟩, ⟨#[]⟩) := ⟨_, rfl⟩
      rw [← hxy] at c1 c2
      have HXX := Aside0.mk hxy
      obtain ⟨x, y⟩ := xy
      simp only at c1 c2
      have HW := Aside0.mk ((HB.out.cell (p := ⟨wb, 0, none⟩) (World.block_lt_of_cell? w _ HWW.out)).trans HWW.out)
      have HQ := Aside0.mk ((HB.out.cell (p := ⟨b, i, none⟩) (World.block_lt_of_cell? w _ HQQ.out)).trans HQQ.out)
      have HAD : Aside0 ((⟨rb, 0, none⟩ : Addr).add (k * 2) = ⟨rb, k * 2, none⟩) := ⟨by unfold Addr.add; by_cases h : k * 2 = 0 <;> simp [h]⟩
      clear x1 x2 hxy
      by_cases he : x = q
      · have HI := Aside0.mk (rowIx_hit q k hlt (by rw [← HXX.out]; exact he) hN.out)
        have cc := Lib.hid (row_clo x y q wr wb b i n c true HW.out hn HQ.out (by rw [he]; exact beq_self_eq_true _))
        obtain rfl : R = (k : Int) := by rw [← HR.out, rowI, HI.out, if_pos hlt]
        have had := HAD.out
        clear he HI
        go_wp2_with (first
          | (go_at_call 28
             refine cc.out.mono ?_
             rintro e v2 ⟨rfl, hb⟩
             have HB2 := Aside0.mk (HB.out.trans (hb.mono HB.out.size))
             clear hb)
          | fail)
        go_ret
        exact ⟨rfl, HB2.out⟩
      · have cc := Lib.hid (row_clo x y q wr wb b i n c false HW.out hn HQ.out (str_ne he))
        have HJ : Aside0 (∀ j < k + 1, (rowTab.getD j (⟨#[]⟩, ⟨#[]⟩)).1 ≠ q) := ⟨fun j hj => by
          rcases Nat.lt_or_ge j k with h | h
          · exact hN.out j h
          · obtain rfl : j = k := by omega
            rw [← HXX.out]
            exact he⟩
        have had := HAD.out
        clear he
        go_wp2_with (first
          | (go_at_call 28
             refine cc.out.mono ?_
             rintro e v2 ⟨rfl, hb⟩
             have HB2 := Aside0.mk (HB.out.trans (hb.mono HB.out.size))
             clear hb)
          | fail)
        go_roundw
        case rel => exact ⟨k + 1, by omega, by go_num, HJ, HB2⟩
        case measure => simp [intOf]; omega
    · obtain rfl : k = 18 := by omega
      have HI := Aside0.mk (rowIx_none q hN.out)
      obtain rfl : R = -1 := by rw [← HR.out, rowI, if_neg HI.out]
      go_wp2
      go_ret
      exact ⟨rfl, HB.out⟩
end Go.Proofs.YtpdinahdcedmkaaDoor.ExtQ
