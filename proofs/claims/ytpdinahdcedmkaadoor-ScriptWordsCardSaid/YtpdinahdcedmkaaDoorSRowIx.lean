/- the number of a row whose name is a line's first word. -/
import Derived.Test.YtpdinahdcedmkaaDoorSPut
namespace Go.Proofs.YtpdinahdcedmkaaDoor.Ext
set_option linter.unusedVariables false
set_option linter.unusedSimpArgs false
open Go.RowKit Go.Proofs.YtpdinahdcedmkaaDoorW.PrintWords Go.Proofs.YtpdinahdcedmkaaDoorW.PrintLast Go.Proofs.YtpdinahdcedmkaaDoorW.PrintMore

theorem krow2 {w v : World} {b : Nat} {o : Obj} (h : w.heap[b]? = some o) (hb : Below w.heap.size w v) : v.heap[b]? = some o := krow h hb
set_option maxHeartbeats 2000000 in
set_option maxRecDepth 100000 in
theorem row_clo (x y q : ByteArray) (w : World) (wb b i n c : Nat) (R : Bool) (hw : w.cell? ⟨wb, 0, none⟩ = some (.slice (some ⟨b, i, none⟩) n c)) (hn : 0 < n) (hq : w.cell? ⟨b, i, none⟩ = some (.string q)) (hR : (x.toList == q.toList) = R) :
    Calls Tryd.prog 28 #[.agg #[.string x, .string y], .pointer (some ⟨wb, 0, none⟩)] w fun e w' => e = .returned (.bool R) ∧ Below w.heap.size w w' := by
  have h1 : wb < w.heap.size := World.block_lt_of_cell? w _ hw
  have h2 : b < w.heap.size := World.block_lt_of_cell? w _ hq
  have hn1 : (0 : Int) < (n : Int) := by omega
  go_enter Tryd.func28, Tryd.ntmps28
  go_wp2
  refine wp_region_held_drew (S := (fun W => W.cell? ⟨w.heap.size, 0, none⟩ = some (.string x) ∧ W.cell? ⟨wb, 0, none⟩ = some (.slice (some ⟨b, i, none⟩) n c) ∧ W.cell? ⟨b, i, none⟩ = some (.string q) ∧ Aside0 (Below w.heap.size w W))) (by kernel_rfl) ?_ (fun hHeld => ?_)
  · try dsimp only
    exact ⟨blk_cell (heap_alloc_new w (.cells #[.string x, .string y] 54)) 0, ((Below.cell ((Below.refl w.heap.size w).alloc (Nat.le_refl _) (.cells #[.string x, .string y] 54)) (p := ⟨wb, 0, none⟩) h1).trans hw), ((Below.cell ((Below.refl w.heap.size w).alloc (Nat.le_refl _) (.cells #[.string x, .string y] 54)) (p := ⟨b, i, none⟩) h2).trans hq), ⟨((Below.refl w.heap.size w).alloc (Nat.le_refl _) (.cells #[.string x, .string y] 54)).drew⟩⟩
  refine wpAnyH_take (i := 0) (v := ?_) rfl (by kernel_rfl) (by kernel_rfl) (by kernel_rfl) (fun _ _ _ h => h) (Or.inl ⟨by rfl, ?_⟩) (by assumption) ?_
  rotate_left
  · intro w hSw
    try dsimp only at hSw
    go_simp
    try with_reducible rfl
  try simp only [Act.put, List.setIfInBounds_toArray, List.set_cons_zero, List.set_cons_succ, List.getElem_toArray, List.getElem_cons_succ, List.getElem_cons_zero]
  refine wpAnyH_take (i := 1) (v := ?_) rfl (by kernel_rfl) (by kernel_rfl) (by kernel_rfl) (fun _ _ _ h => h) (Or.inl ⟨by rfl, ?_⟩) (by assumption) ?_
  rotate_left
  · intro w hSw
    try dsimp only at hSw
    go_simp
    try with_reducible rfl
  try simp only [Act.put, List.setIfInBounds_toArray, List.set_cons_zero, List.set_cons_succ, List.getElem_toArray, List.getElem_cons_succ, List.getElem_cons_zero]
  refine wpAnyH_take (i := 2) (v := ?_) rfl (by kernel_rfl) (by kernel_rfl) (by kernel_rfl) (fun _ _ _ h => h) (Or.inl ⟨by rfl, ?_⟩) (by assumption) ?_
  rotate_left
  · intro w hSw
    try dsimp only at hSw
    go_simp
    try with_reducible rfl
  try simp only [Act.put, List.setIfInBounds_toArray, List.set_cons_zero, List.set_cons_succ, List.getElem_toArray, List.getElem_cons_succ, List.getElem_cons_zero]
  refine wpAnyH_take (i := 3) (v := ?_) rfl (by kernel_rfl) (by kernel_rfl) (by kernel_rfl) (fun _ _ _ h => h) (Or.inl ⟨by rfl, ?_⟩) (by assumption) ?_
  rotate_left
  · intro w hSw
    try dsimp only at hSw
    go_simp
    try with_reducible rfl
  try simp only [Act.put, List.setIfInBounds_toArray, List.set_cons_zero, List.set_cons_succ, List.getElem_toArray, List.getElem_cons_succ, List.getElem_cons_zero]
  refine wpAnyH_take (i := 4) (v := ?_) rfl (by kernel_rfl) (by kernel_rfl) (by kernel_rfl) (fun _ _ _ h => h) (Or.inl ⟨by rfl, ?_⟩) (by assumption) ?_
  rotate_left
  · intro w hSw
    try dsimp only at hSw
    go_simp
    try with_reducible rfl
  try simp only [Act.put, List.setIfInBounds_toArray, List.set_cons_zero, List.set_cons_succ, List.getElem_toArray, List.getElem_cons_succ, List.getElem_cons_zero]
  refine wpAnyH_take (i := 5) (v := ?_) rfl (by kernel_rfl) (by kernel_rfl) (by kernel_rfl) (fun _ _ _ h => h) (Or.inl ⟨by rfl, ?_⟩) (by assumption) ?_
  rotate_left
  · intro w hSw
    try dsimp only at hSw
    go_simp
    try with_reducible rfl
  try simp only [Act.put, List.setIfInBounds_toArray, List.set_cons_zero, List.set_cons_succ, List.getElem_toArray, List.getElem_cons_succ, List.getElem_cons_zero]
  refine wpAnyH_take (i := 6) (v := ?_) rfl (by kernel_rfl) (by kernel_rfl) (by kernel_rfl) (fun _ _ _ h => h) (Or.inl ⟨by rfl, ?_⟩) (by assumption) ?_
  rotate_left
  · intro w hSw
    try dsimp only at hSw
    go_simp
    try with_reducible rfl
  try simp only [Act.put, List.setIfInBounds_toArray, List.set_cons_zero, List.set_cons_succ, List.getElem_toArray, List.getElem_cons_succ, List.getElem_cons_zero]
  refine wpAnyH_done (by kernel_rfl) ?_ _
  go_wp2
  go_ret
  exact ⟨rfl, hHeld.2.2.2.out⟩
def rowIx (q : ByteArray) : Nat := rowTab.findIdx (fun x => decide (x.1 = q))
def rowI (q : ByteArray) : Int := if rowIx q < 18 then (rowIx q : Int) else -1
theorem rowTab_len : rowTab.length = 18 := by decide
theorem rowIx_hit (q : ByteArray) (i : Nat) (hi : i < 18) (h : (rowTab.getD i (⟨#[]⟩, ⟨#[]⟩)).1 = q) (hn : ∀ j < i, (rowTab.getD j (⟨#[]⟩, ⟨#[]⟩)).1 ≠ q) : rowIx q = i := by
  unfold rowIx
  rw [List.findIdx_eq (by rw [rowTab_len]; exact hi)]
  refine ⟨by rw [List.getD_eq_getElem?_getD, List.getElem?_eq_getElem (by rw [rowTab_len]; exact hi)] at h; simpa using h, fun j hj => ?_⟩
  have := hn j hj
  rw [List.getD_eq_getElem?_getD, List.getElem?_eq_getElem (by rw [rowTab_len]; omega)] at this
  simpa using this
theorem rowIx_none (q : ByteArray) (hn : ∀ j < 18, (rowTab.getD j (⟨#[]⟩, ⟨#[]⟩)).1 ≠ q) : ¬ rowIx q < 18 := by
  intro h
  unfold rowIx at h
  have h' : rowTab.findIdx (fun x => decide (x.1 = q)) < rowTab.length := by rw [rowTab_len]; exact h
  have h1 := List.findIdx_getElem (w := h')
  have h2 := hn _ h
  rw [List.getD_eq_getElem?_getD, List.getElem?_eq_getElem h'] at h2
  exact h2 (by simpa using h1)
set_option maxHeartbeats 4000000 in
set_option maxRecDepth 100000 in
theorem row_ix (q : ByteArray) (w : World) (rb wb b i n c : Nat) (hr : w.heap[rb]? = some (.cells rowC 59)) (hw : w.cell? ⟨wb, 0, none⟩ = some (.slice (some ⟨b, i, none⟩) n c)) (hn : 0 < n) (hq : w.cell? ⟨b, i, none⟩ = some (.string q)) :
    Calls Tryd.prog 27 #[.slice (some ⟨rb, 0, none⟩) 18 18, .func (.func 28) #[] #[.pointer (some ⟨wb, 0, none⟩)]] w fun e w' => e = .returned (.int .i64 (rowI q)) ∧ Below w.heap.size w w' := by
  have HRR := Aside0.mk hr
  have HWW := Aside0.mk hw
  have HQQ := Aside0.mk hq
  clear hr hw hq
  generalize hR : rowI q = R at *
  have HR := Aside0.mk hR
  clear hR
  go_enter Tryd.func27, Tryd.ntmps27
  go_wp2
  go_loopw [8] (fun v8 wr => ∃ k : Nat, k ≤ 18 ∧ v8 = .int .i64 (k : Int) ∧ Aside0 (∀ j < k, (rowTab.getD j (⟨#[]⟩, ⟨#[]⟩)).1 ≠ q) ∧ Aside0 (Below w.heap.size w wr)) (fun v8 _ => 18 - (intOf v8).toNat)
  case atStart => exact ⟨0, by omega, rfl, ⟨fun j hj => absurd hj (by omega)⟩, ⟨Below.refl _ _⟩⟩
  case round =>
    obtain ⟨k, hk, rfl, hN, HB⟩ := hrel
    by_cases hlt : k < 18
    · obtain ⟨x1, x2⟩ := rowC_at k hlt
      have hti : (k : Int) < 18 := by omega
      have hti0 : (0 : Int) ≤ (k : Int) := by omega
      have HRW := Aside0.mk (krow2 HRR.out HB.out)
      have c1 : wr.cell? ⟨rb, k * 2, none⟩ = rowC[k * 2]? := blk_cell HRW.out (k * 2)
      have c2 : wr.cell? ⟨rb, k * 2 + 1, none⟩ = rowC[k * 2 + 1]? := blk_cell HRW.out (k * 2 + 1)
      rw [x1] at c1
      rw [x2] at c2
      obtain ⟨xy, hxy⟩ : ∃ xy, xy = rowTab.getD k (⟨#[]⟩, ⟨#[]⟩) := ⟨_, rfl⟩
      rw [← hxy] at c1 c2
      have HXX := Aside0.mk hxy
      obtain ⟨x, y⟩ := xy
      simp only at c1 c2
      have HW := Aside0.mk ((HB.out.cell (p := ⟨wb, 0, none⟩) (World.block_lt_of_cell? w _ HWW.out)).trans HWW.out)
      have HQ := Aside0.mk ((HB.out.cell (p := ⟨b, i, none⟩) (World.block_lt_of_cell? w _ HQQ.out)).trans HQQ.out)
      have HAD : Aside0 ((⟨rb, 0, none⟩ : Addr).add (k * 2) = ⟨rb, k * 2, none⟩) := ⟨by unfold Addr.add; by_cases h : k * 2 = 0 <;> simp [h]⟩
      clear x1 x2 hxy
      by_cases he : x = q
      · have HI := Aside0.mk (rowIx_hit q k hlt (by rw [← HXX.out]; exact he) hN.out)
        have cc := Lib.hid (row_clo x y q wr wb b i n c true HW.out hn HQ.out (by rw [he]; exact beq_self_eq_true _))
        obtain rfl : R = (k : Int) := by rw [← HR.out, rowI, HI.out, if_pos hlt]
        have had := HAD.out
        clear he HI
        go_wp2_with (first
          | (go_at_call 28
             refine cc.out.mono ?_
             rintro e v2 ⟨rfl, hb⟩
             have HB2 := Aside0.mk (HB.out.trans (hb.mono HB.out.size))
             clear hb)
          | fail)
        go_ret
        exact ⟨rfl, HB2.out⟩
      · have cc := Lib.hid (row_clo x y q wr wb b i n c false HW.out hn HQ.out (str_ne he))
        have HJ : Aside0 (∀ j < k + 1, (rowTab.getD j (⟨#[]⟩, ⟨#[]⟩)).1 ≠ q) := ⟨fun j hj => by
          rcases Nat.lt_or_ge j k with h | h
          · exact hN.out j h
          · obtain rfl : j = k := by omega
            rw [← HXX.out]
            exact he⟩
        have had := HAD.out
        clear he
        go_wp2_with (first
          | (go_at_call 28
             refine cc.out.mono ?_
             rintro e v2 ⟨rfl, hb⟩
             have HB2 := Aside0.mk (HB.out.trans (hb.mono HB.out.size))
             clear hb)
          | fail)
        go_roundw
        case rel => exact ⟨k + 1, by omega, by go_num, HJ, HB2⟩
        case measure => simp [intOf]; omega
    · obtain rfl : k = 18 := by omega
      have HI := Aside0.mk (rowIx_none q hN.out)
      obtain rfl : R = -1 := by rw [← HR.out, rowI, if_neg HI.out]
      go_wp2
      go_ret
      exact ⟨rfl, HB.out⟩
end Go.Proofs.YtpdinahdcedmkaaDoor.Ext
