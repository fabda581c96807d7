import Derived.Test.YtpdinahdcedmkaaGreatDoorK24
import Derived.Test.YtpdinahdcedmkaaGreatDoorK23
import Derived.Test.YtpdinahdcedmkaaGreatDoorK6
import Derived.BigRegion
set_option linter.unusedVariables false
set_option linter.unusedSimpArgs false
set_option maxHeartbeats 16000000
set_option maxRecDepth 100000
/- liveryref27.read: the letters d, t, p, and s where the first word is xmss. -/
namespace Go.Proofs.YtpdinahdcedmkaaGreatDoor.Ext
open Go.Proofs.YtpdinahdcedmkaaGreatDoor.P
open Go.RowKit YtpdinahdcedmkaaGreatDoorW.PrintWords YtpdinahdcedmkaaGreatDoorW.PrintLast YtpdinahdcedmkaaGreatDoorW.PrintMore Go.Proofs.YtpdinahdcedmkaaGreatDoor.Spec
theorem cellK {W W' : World} {a : Addr} {v : Value} (h : W.cell? a = some v) (hb : Below W.heap.size W W') : W'.cell? a = some v := (hb.cell (World.block_lt_of_cell? W _ h)).trans h
theorem below_iter0 (W : World) (s : ByteArray) : Below W.heap.size W (W.iter s 0) := (Below.refl _ _).alloc (Nat.le_refl _) _
theorem cellF {W : World} {a p : Addr} {v u : Value} (h : W.cell? a = some v) (hn : p.block ≠ a.block) : (W.setCell p u).cell? a = some v := (World.cell?_setCell_far W p a u hn).trans h
theorem read_d (p : Plan) (cp : List Value) (x : Act) (u4 u11 u12 : Value) (b i : Nat) (s0 : ByteArray) (n c : Nat) (b0 : Nat) (w : World) (hP : k25.K w p cp) (hV : ActV b0 w x u4 u11 u12) (h0 : w.cell? ⟨b, i, none⟩ = some (.string s0)) (hn : 1 <= n) (hc : n <= c) (hb0 : b0 <= w.heap.size) (hz : s0.size <= 134217728) (hpl : p.f2.length <= 1048576) (hpz : ∀ i, (p.f2.getD i ByteArray.empty).size <= 1073741824) :
 Calls Tryz.prog 40 #[.agg cp.toArray, .agg #[.int .i64 x.f0, .int .i64 x.f1, .int .i64 x.f2, .int .i64 x.f3, u4, .int .u32 x.f5, .int .u32 x.f6, .int .u32 x.f7, .int .u64 x.f8.f0, .int .u64 x.f8.f1, .int .i64 x.f9, u11, u12], .int .i32 100, .slice (some ⟨b, i, none⟩) n c] w (ReadP b0 w ({ x with f1 := namedR p.f2 s0 })) := by
 have hn0 : 0 < n := by omega
 have cN := Lib.hid (fun W (hW : Below w.heap.size w W) => r_named p s0 cp W (k25.K_below hW hP) hpl hpz)
 clear hpl hpz
 obtain ⟨P0, X0, S0, HV⟩ := rd_pre cp hV
 have cD := Lib.hid (fun W => digits_walk s0 W (by omega))
 have hlt := World.block_lt_of_cell? w _ h0
 have k0 := (P0.out.hb.cell (p := ⟨b, i, none⟩) hlt).trans h0
 have H0 := Zz.mk h0
 obtain ⟨B2, d2, B3, d3, rfl, m2, e2, m3, e3⟩ := k25_open hP
 have hn1 : (0 : Int) < (n : Int) := by omega
 clear hP e2 m2 e3 m3 hV h0
 generalize hm : numS s0 = m at *
 clear hm
 generalize namedR p.f2 s0 = nm at *
 go_enter Tryz.func40, Tryz.ntmps40
 go_wp2_with fail
 refine (cD.out _).mono ?_
 rintro e v ⟨rfl, hb⟩
 replace P0 := Zz.mk (P0.out.next hb)
 replace X0 := Zz.mk (X0.out.next hb)
 replace S0 := Zz.mk (S0.out.next hb)
 replace HV := Zz.mk (HV.out.below hb)
 clear hb cD k0
 have hD : Below v.heap.size v v.drew := Below.drew (Below.refl _ _)
 have k1 := cellK ((P0.out.hb.cell (p := ⟨b, i, none⟩) hlt).trans H0.out) hD
 have r0 := cellK (P0.out.c 0) hD
 have r1 := cellK (P0.out.c 1) hD
 have r2 := cellK (P0.out.c 2) hD
 have r3 := cellK (P0.out.c 3) hD
 replace P0 := Zz.mk (P0.out.next hD)
 replace X0 := Zz.mk (X0.out.next hD)
 replace S0 := Zz.mk (S0.out.next hD)
 replace HV := Zz.mk (HV.out.below hD)
 clear hD
 go_upto_region 4 with fail
 refine wp_region_held_drew (S := fun W => W.cell? ⟨w.heap.size, 0, none⟩ = some (.int .i64 p.f0) /\ W.cell? ⟨w.heap.size, 1, none⟩ = some (.int .i64 p.f1) /\ W.cell? ⟨w.heap.size, 2, none⟩ = some (.slice B2 p.f2.length d2) /\ W.cell? ⟨w.heap.size, 3, none⟩ = some (.slice B3 p.f3.length d3) /\ W.cell? ⟨b, i, none⟩ = some (.string s0)) (by kernel_rfl) (⟨r0, r1, r2, r3, k1⟩) (fun hHeld => ?_)
 clear r0 r1 r2 r3 k1
 apply tkJ 0
 apply tkJ 1
 apply tkJ 2
 apply tkJ 3
 refine wpAnyH_ready (rs := [4]) (by kernel_rfl) (by simp) ?_
 refine AllReadyH.cons rfl (fun K hK => ?_) AllReadyH.nil
 go_simp
 go_at_call 87
 with_reducible refine (cN.out _ P0.out.hb).mono ?_
 rintro e u1 ⟨rfl, hbz⟩
 try go_wp2_with fail
 replace P0 := Zz.mk (P0.out.next hbz)
 replace X0 := Zz.mk (X0.out.next hbz)
 replace S0 := Zz.mk (S0.out.next hbz)
 replace HV := Zz.mk (HV.out.below hbz)
 refine hK.out _ _ (⟨cellK hHeld.1 hbz, cellK hHeld.2.1 hbz, cellK hHeld.2.2.1 hbz, cellK hHeld.2.2.2.1 hbz, cellK hHeld.2.2.2.2 hbz⟩) ?_
 clear hHeld hbz hK K
 intro hHeld
 try simp only [Act.put,pA,pB,pC,pD,pE,pF]
 apply tkJ 5
 have q := blk_cell X0.out.row 1
 have z := blk_free X0.out.row 1
 have HX : Zz ((u1.setCell ⟨w.heap.size + 1, 1, none⟩ (.int .i64 (nm))).heap[w.heap.size + 1]? = some (.cells #[.int .i64 x.f0, .int .i64 nm, .int .i64 x.f2, .int .i64 x.f3, u4, .int .u32 x.f5, .int .u32 x.f6, .int .u32 x.f7, .int .u64 x.f8.f0, .int .u64 x.f8.f1, .int .i64 x.f9, u11, u12] 34)) := ⟨blk_set X0.out.row 1 (.int .i64 (nm))⟩
 have HS := Zz.mk (ExtQ.row_step S0.out.row (ExtQ.setCell_grown u1 (w.heap.size + 1) 1 (.int .i64 (nm))) (by omega))
 have HB := Zz.mk (P0.out.hb.setCell (p := ⟨w.heap.size + 1, 1, none⟩) (by show _ <= w.heap.size + 1; omega) (.int .i64 (nm)))
 have HV2 := Zz.mk (HV.out.set X0.out.row 1 (.int .i64 (nm)))
 refine wpAnyH_ready (rs := [6]) (by kernel_rfl) (by simp) ?_
 refine AllReadyH.cons rfl (fun K hK => ?_) AllReadyH.nil
 go_simp
 refine hK.out _ _ ⟨cellF hHeld.1 (by show ¬ w.heap.size + 1 = w.heap.size; omega), cellF hHeld.2.1 (by show ¬ w.heap.size + 1 = w.heap.size; omega), cellF hHeld.2.2.1 (by show ¬ w.heap.size + 1 = w.heap.size; omega), cellF hHeld.2.2.2.1 (by show ¬ w.heap.size + 1 = w.heap.size; omega), cellF hHeld.2.2.2.2 (by show ¬ w.heap.size + 1 = b; have : b < w.heap.size := hlt; omega)⟩ ?_
 clear hHeld hK K
 intro hHeld
 clear hHeld
 try simp only [Act.put,pA,pB,pC,pD,pE,pF]
 refine wpAnyH_done (by kernel_rfl) ?_ _
 obtain ⟨q0, q1, q2, q3, q4, q5, q6, q7, q8, q9, q10, q11, q12⟩ := cls13 HX.out
 go_wp2_with (first
  | (refine wpList_store_row rfl 34 (.tmp 8) (.tmp 143) rfl (w.heap.size + 1 + 1) #[.int .i64 x.f0, .int .i64 nm, .int .i64 x.f2, .int .i64 x.f3, u4, .int .u32 x.f5, .int .u32 x.f6, .int .u32 x.f7, .int .u64 x.f8.f0, .int .u64 x.f8.f1, .int .i64 x.f9, u11, u12] rfl rfl 34 _ HS.out actC_info2 rfl (cells_one (x := { x with f1 := nm }) _ _ _ HV.out.ones) ?_)
  | fail)
 refine bodyPost_ret (v := .agg #[.int .i64 x.f0, .int .i64 nm, .int .i64 x.f2, .int .i64 x.f3, u4, .int .u32 x.f5, .int .u32 x.f6, .int .u32 x.f7, .int .u64 x.f8.f0, .int .u64 x.f8.f1, .int .i64 x.f9, u11, u12]) (results_cell1 Tryz.results40 _ _ _ (w.heap.size + 1 + 1) rfl _ (run_loadVar_row _ (w.heap.size + 1 + 1) 34 34 _ (0, 0) _ (setRow_heap _ _ _ _ _ _ HS.out) Tryz.underlying34 rfl actC_info2)) rfl ?_
 exact ⟨_, _, _, rfl, ⟨(HV2.out.setR HS.out _).h4, (HV2.out.setR HS.out _).h11, (HV2.out.setR HS.out _).h12, HV2.out.nl⟩, below_setRow HB.out (by omega) _⟩
theorem read_t (p : Plan) (cp : List Value) (x : Act) (u4 u11 u12 : Value) (b i : Nat) (s0 : ByteArray) (n c : Nat) (b0 : Nat) (w : World) (hP : k25.K w p cp) (hV : ActV b0 w x u4 u11 u12) (h0 : w.cell? ⟨b, i, none⟩ = some (.string s0)) (hn : 1 <= n) (hc : n <= c) (hb0 : b0 <= w.heap.size) (hz : s0.size <= 134217728) (hpl : p.f2.length <= 1048576) (hpz : ∀ i, (p.f2.getD i ByteArray.empty).size <= 1073741824) :
 Calls Tryz.prog 40 #[.agg cp.toArray, .agg #[.int .i64 x.f0, .int .i64 x.f1, .int .i64 x.f2, .int .i64 x.f3, u4, .int .u32 x.f5, .int .u32 x.f6, .int .u32 x.f7, .int .u64 x.f8.f0, .int .u64 x.f8.f1, .int .i64 x.f9, u11, u12], .int .i32 116, .slice (some ⟨b, i, none⟩) n c] w (ReadP b0 w ({ x with f2 := namedR p.f2 s0 })) := by
 have hn0 : 0 < n := by omega
 have cN := Lib.hid (fun W (hW : Below w.heap.size w W) => r_named p s0 cp W (k25.K_below hW hP) hpl hpz)
 clear hpl hpz
 obtain ⟨P0, X0, S0, HV⟩ := rd_pre cp hV
 have cD := Lib.hid (fun W => digits_walk s0 W (by omega))
 have hlt := World.block_lt_of_cell? w _ h0
 have k0 := (P0.out.hb.cell (p := ⟨b, i, none⟩) hlt).trans h0
 have H0 := Zz.mk h0
 obtain ⟨B2, d2, B3, d3, rfl, m2, e2, m3, e3⟩ := k25_open hP
 have hn1 : (0 : Int) < (n : Int) := by omega
 clear hP e2 m2 e3 m3 hV h0
 generalize hm : numS s0 = m at *
 clear hm
 generalize namedR p.f2 s0 = nm at *
 go_enter Tryz.func40, Tryz.ntmps40
 go_wp2_with fail
 refine (cD.out _).mono ?_
 rintro e v ⟨rfl, hb⟩
 replace P0 := Zz.mk (P0.out.next hb)
 replace X0 := Zz.mk (X0.out.next hb)
 replace S0 := Zz.mk (S0.out.next hb)
 replace HV := Zz.mk (HV.out.below hb)
 clear hb cD k0
 have hD : Below v.heap.size v v.drew := Below.drew (Below.refl _ _)
 have k1 := cellK ((P0.out.hb.cell (p := ⟨b, i, none⟩) hlt).trans H0.out) hD
 have r0 := cellK (P0.out.c 0) hD
 have r1 := cellK (P0.out.c 1) hD
 have r2 := cellK (P0.out.c 2) hD
 have r3 := cellK (P0.out.c 3) hD
 replace P0 := Zz.mk (P0.out.next hD)
 replace X0 := Zz.mk (X0.out.next hD)
 replace S0 := Zz.mk (S0.out.next hD)
 replace HV := Zz.mk (HV.out.below hD)
 clear hD
 go_upto_region 6 with fail
 refine wp_region_held_drew (S := fun W => W.cell? ⟨w.heap.size, 0, none⟩ = some (.int .i64 p.f0) /\ W.cell? ⟨w.heap.size, 1, none⟩ = some (.int .i64 p.f1) /\ W.cell? ⟨w.heap.size, 2, none⟩ = some (.slice B2 p.f2.length d2) /\ W.cell? ⟨w.heap.size, 3, none⟩ = some (.slice B3 p.f3.length d3) /\ W.cell? ⟨b, i, none⟩ = some (.string s0)) (by kernel_rfl) (⟨r0, r1, r2, r3, k1⟩) (fun hHeld => ?_)
 clear r0 r1 r2 r3 k1
 apply tkJ 0
 apply tkJ 1
 apply tkJ 2
 apply tkJ 3
 refine wpAnyH_ready (rs := [4]) (by kernel_rfl) (by simp) ?_
 refine AllReadyH.cons rfl (fun K hK => ?_) AllReadyH.nil
 go_simp
 go_at_call 87
 with_reducible refine (cN.out _ P0.out.hb).mono ?_
 rintro e u1 ⟨rfl, hbz⟩
 try go_wp2_with fail
 replace P0 := Zz.mk (P0.out.next hbz)
 replace X0 := Zz.mk (X0.out.next hbz)
 replace S0 := Zz.mk (S0.out.next hbz)
 replace HV := Zz.mk (HV.out.below hbz)
 refine hK.out _ _ (⟨cellK hHeld.1 hbz, cellK hHeld.2.1 hbz, cellK hHeld.2.2.1 hbz, cellK hHeld.2.2.2.1 hbz, cellK hHeld.2.2.2.2 hbz⟩) ?_
 clear hHeld hbz hK K
 intro hHeld
 try simp only [Act.put,pA,pB,pC,pD,pE,pF]
 apply tkJ 5
 have q := blk_cell X0.out.row 2
 have z := blk_free X0.out.row 2
 have HX : Zz ((u1.setCell ⟨w.heap.size + 1, 2, none⟩ (.int .i64 (nm))).heap[w.heap.size + 1]? = some (.cells #[.int .i64 x.f0, .int .i64 x.f1, .int .i64 nm, .int .i64 x.f3, u4, .int .u32 x.f5, .int .u32 x.f6, .int .u32 x.f7, .int .u64 x.f8.f0, .int .u64 x.f8.f1, .int .i64 x.f9, u11, u12] 34)) := ⟨blk_set X0.out.row 2 (.int .i64 (nm))⟩
 have HS := Zz.mk (ExtQ.row_step S0.out.row (ExtQ.setCell_grown u1 (w.heap.size + 1) 2 (.int .i64 (nm))) (by omega))
 have HB := Zz.mk (P0.out.hb.setCell (p := ⟨w.heap.size + 1, 2, none⟩) (by show _ <= w.heap.size + 1; omega) (.int .i64 (nm)))
 have HV2 := Zz.mk (HV.out.set X0.out.row 2 (.int .i64 (nm)))
 refine wpAnyH_ready (rs := [6]) (by kernel_rfl) (by simp) ?_
 refine AllReadyH.cons rfl (fun K hK => ?_) AllReadyH.nil
 go_simp
 refine hK.out _ _ ⟨cellF hHeld.1 (by show ¬ w.heap.size + 1 = w.heap.size; omega), cellF hHeld.2.1 (by show ¬ w.heap.size + 1 = w.heap.size; omega), cellF hHeld.2.2.1 (by show ¬ w.heap.size + 1 = w.heap.size; omega), cellF hHeld.2.2.2.1 (by show ¬ w.heap.size + 1 = w.heap.size; omega), cellF hHeld.2.2.2.2 (by show ¬ w.heap.size + 1 = b; have : b < w.heap.size := hlt; omega)⟩ ?_
 clear hHeld hK K
 intro hHeld
 clear hHeld
 try simp only [Act.put,pA,pB,pC,pD,pE,pF]
 refine wpAnyH_done (by kernel_rfl) ?_ _
 obtain ⟨q0, q1, q2, q3, q4, q5, q6, q7, q8, q9, q10, q11, q12⟩ := cls13 HX.out
 go_wp2_with (first
  | (refine wpList_store_row rfl 34 (.tmp 8) (.tmp 143) rfl (w.heap.size + 1 + 1) #[.int .i64 x.f0, .int .i64 x.f1, .int .i64 nm, .int .i64 x.f3, u4, .int .u32 x.f5, .int .u32 x.f6, .int .u32 x.f7, .int .u64 x.f8.f0, .int .u64 x.f8.f1, .int .i64 x.f9, u11, u12] rfl rfl 34 _ HS.out actC_info2 rfl (cells_one (x := { x with f2 := nm }) _ _ _ HV.out.ones) ?_)
  | fail)
 refine bodyPost_ret (v := .agg #[.int .i64 x.f0, .int .i64 x.f1, .int .i64 nm, .int .i64 x.f3, u4, .int .u32 x.f5, .int .u32 x.f6, .int .u32 x.f7, .int .u64 x.f8.f0, .int .u64 x.f8.f1, .int .i64 x.f9, u11, u12]) (results_cell1 Tryz.results40 _ _ _ (w.heap.size + 1 + 1) rfl _ (run_loadVar_row _ (w.heap.size + 1 + 1) 34 34 _ (0, 0) _ (setRow_heap _ _ _ _ _ _ HS.out) Tryz.underlying34 rfl actC_info2)) rfl ?_
 exact ⟨_, _, _, rfl, ⟨(HV2.out.setR HS.out _).h4, (HV2.out.setR HS.out _).h11, (HV2.out.setR HS.out _).h12, HV2.out.nl⟩, below_setRow HB.out (by omega) _⟩
def prs (L : List (Nat × Nat × Nat)) : List Bool := (L.filter fun x => decide (x.2.1 ≠ 46)).map fun x => decide (x.2.1 = 43)
theorem prs_dot (p w : Nat) (L : List (Nat × Nat × Nat)) : prs ((p, 46, w) :: L) = prs L := by
 unfold prs
 rw [List.filter_cons_of_neg (by simp)]
theorem prs_cons (p r w : Nat) (L : List (Nat × Nat × Nat)) (h : r ≠ 46) : prs ((p, r, w) :: L) = (((r : Nat) : Int) == 43) :: prs L := by
 unfold prs
 rw [List.filter_cons_of_pos (by simpa using h), List.map_cons]
 congr 1
 rw [Bool.eq_iff_iff]
 simp only [decide_eq_true_eq, beq_iff_eq]
 omega
structure PR (x : Act) (u4 u11 : Value) (b0 : Nat) (w W : World) (k : Nat) (s : ByteArray) (pos : Nat) (l : List Bool) (u : Value) : Prop where
 it : W.heap[k]? = some (.stringIter s pos)
 bx : W.heap[w.heap.size + 1]? = some (.cells #[.int .i64 x.f0, .int .i64 x.f1, .int .i64 x.f2, .int .i64 x.f3, u4, .int .u32 x.f5, .int .u32 x.f6, .int .u32 x.f7, .int .u64 x.f8.f0, .int .u64 x.f8.f1, .int .i64 x.f9, u11, u] 34)
 rs : W.heap[w.heap.size + 1 + 1]? = some (.cells #[.int .i64 0, .int .i64 0, .int .i64 0, .int .i64 0, .slice none 0 0, .int .u32 0, .int .u32 0, .int .u32 0, .int .u64 0, .int .u64 0, .int .i64 0, .slice none 0 0, .slice none 0 0] 34)
 hb : Below w.heap.size w W
 h4 : Held k74 74 b0 W u4 x.f4
 h11 : Held (Kd.int .u8) 5 b0 W u11 x.f10
 hR : Kd.R Kd.bool 4 W w.heap.size (fun _ => True) u l
 nl : l = [] -> u = .slice none 0 0
 lt : w.heap.size + 1 + 1 < k
theorem PR.iter {x : Act} {u4 u11 : Value} {b0 : Nat} {w W : World} {k : Nat} {s : ByteArray} {pos : Nat} {l : List Bool} {u : Value} (h : PR x u4 u11 b0 w W k s pos l u) (q : Nat) : PR x u4 u11 b0 w (W.iterAt k s q) k s q l u :=
 ⟨Lib.iterAt_heap W k s pos q h.it, ExtQ.row_step h.bx (ExtQ.iterAt_grown W k s q) (by have := h.lt; omega), ExtQ.row_step h.rs (ExtQ.iterAt_grown W k s q) (by have := h.lt; omega), Lib.below_iterAt h.hb (by have := h.lt; omega) s q,
  h.h4.step flat_lv (ExtQ.iterAt_grown W k s q) (fun k' e cells fr he => (by cases e; rw [h.it] at he; cases he)), h.h11.step (flat_int _) (ExtQ.iterAt_grown W k s q) (fun k' e cells fr he => (by cases e; rw [h.it] at he; cases he)),
  Kd.R_mono (Kd.R_grown (Kd.R_bound h.hR) (ExtQ.iterAt_grown W k s q) (fun k' hk e => (by cases e; obtain ⟨_, _, _, _, _, _, hc⟩ := hk; rw [h.it] at hc; cases hc))) (fun _ _ => trivial), h.nl, h.lt⟩
theorem PR.own {x : Act} {u4 u11 : Value} {b0 : Nat} {w W : World} {k : Nat} {s : ByteArray} {pos : Nat} {l : List Bool} {u : Value} (h : PR x u4 u11 b0 w W k s pos l u) : ∀ j, u.ownBlock = some j -> ∃ cells, W.heap[j]? = some (.cells cells 4 (0, 0)) := by
 intro j hj
 obtain ⟨_, inner, ho, _⟩ := h.hR
 exact own_typed ho j hj
theorem bool_act : 4 ≠ 34 := by decide
theorem bool_lv : 4 ≠ 74 := by decide
theorem bool_u8 : 4 ≠ 5 := by decide
theorem PR.kept {x : Act} {u4 u11 : Value} {b0 : Nat} {w W W1 : World} {k : Nat} {s : ByteArray} {pos : Nat} {l : List Bool} {u : Value} (h : PR x u4 u11 b0 w W k s pos l u) (hg : W.grownBy W1 u.ownBlock) : W1.heap[w.heap.size + 1]? = some (.cells #[.int .i64 x.f0, .int .i64 x.f1, .int .i64 x.f2, .int .i64 x.f3, u4, .int .u32 x.f5, .int .u32 x.f6, .int .u32 x.f7, .int .u64 x.f8.f0, .int .u64 x.f8.f1, .int .i64 x.f9, u11, u] 34) := by
 refine (hg.block _ (Array.getElem?_eq_some_iff.1 h.bx).1 (fun e => ?_)).trans h.bx
 obtain ⟨cells, hc⟩ := h.own _ e.symm
 have h2 := hc.symm.trans h.bx
 injection h2 with h2
 injection h2 with _ h2
 exact bool_act h2
theorem PR.app {x : Act} {u4 u11 : Value} {b0 : Nat} {w W W1 : World} {k : Nat} {s : ByteArray} {pos : Nat} {l : List Bool} {u v1 : Value} {y : Bool} (h : PR x u4 u11 b0 w W k s pos l u) (hg : W.grownBy W1 u.ownBlock) (hb : Below w.heap.size w W1) (ho : Kd.R Kd.bool 4 W1 w.heap.size (fun _ => True) v1 (l ++ [y])) : PR x u4 u11 b0 w (W1.setCell ⟨w.heap.size + 1, 12, none⟩ v1) k s pos (l ++ [y]) v1 := by
 have hx := h.kept hg
 have hi : W1.heap[k]? = some (.stringIter s pos) := by
  refine (hg.block _ (Array.getElem?_eq_some_iff.1 h.it).1 (fun e => ?_)).trans h.it
  obtain ⟨cells, hc⟩ := h.own _ e.symm
  have h2 := hc.symm.trans h.it
  injection h2 with h2
  cases h2
 have hs : W1.heap[w.heap.size + 1 + 1]? = some (.cells #[.int .i64 0, .int .i64 0, .int .i64 0, .int .i64 0, .slice none 0 0, .int .u32 0, .int .u32 0, .int .u32 0, .int .u64 0, .int .u64 0, .int .i64 0, .slice none 0 0, .slice none 0 0] 34) := by
  refine (hg.block _ (Array.getElem?_eq_some_iff.1 h.rs).1 (fun e => ?_)).trans h.rs
  obtain ⟨cells, hc⟩ := h.own _ e.symm
  have h2 := hc.symm.trans h.rs
  injection h2 with h2
  injection h2 with _ h2
  exact bool_act h2
 have k4 := h.h4.step flat_lv hg (fun j e cells fr he => (by
  obtain ⟨cells', hc⟩ := h.own _ e
  rw [hc] at he
  injection he with he
  injection he with _ he
  exact bool_lv he))
 have k11 := h.h11.step (flat_int _) hg (fun j e cells fr he => (by
  obtain ⟨cells', hc⟩ := h.own _ e
  rw [hc] at he
  injection he with he
  injection he with _ he
  exact bool_u8 he))
 have g := ExtQ.setCell_grown W1 (w.heap.size + 1) 12 v1
 have hlt := h.lt
 exact ⟨ExtQ.row_step hi g (by omega), blk_set hx 12 v1, ExtQ.row_step hs g (by omega), hb.setCell (p := ⟨w.heap.size + 1, 12, none⟩) (by show _ <= w.heap.size + 1; omega) v1,
  k4.step flat_lv g (fun j e cells fr he => (by cases e; rw [hx] at he; cases he)), k11.step (flat_int _) g (fun j e cells fr he => (by cases e; rw [hx] at he; cases he)),
  Kd.R_mono (Kd.R_far (p := ⟨w.heap.size + 1, 12, none⟩) (Kd.R_types ho hx (fun q hq => (by
   simp only [List.mem_cons, List.not_mem_nil, or_false] at hq
   rcases hq with rfl | hq
   · exact bool_act
   · cases hq))) (fun j hj => hj.2) v1) (fun _ _ => trivial), fun e => absurd e (by simp), h.lt⟩
theorem PR.ones {x : Act} {u4 u11 : Value} {b0 : Nat} {w W : World} {k : Nat} {s : ByteArray} {pos : Nat} {l : List Bool} {u : Value} (h : PR x u4 u11 b0 w W k s pos l u) : u4.oneCell' = true /\ u11.oneCell' = true /\ u.oneCell' = true := by
 obtain ⟨A4, c4, rfl, _⟩ := h.h4.out
 obtain ⟨A11, c11, rfl, _⟩ := h.h11.out
 obtain ⟨A12, c12, rfl⟩ := Kd.R_slice h.hR
 exact ⟨rfl, rfl, rfl⟩
theorem PR.fin {x : Act} {u4 u11 : Value} {b0 : Nat} {w W : World} {k : Nat} {s : ByteArray} {pos : Nat} {l : List Bool} {u : Value} (h : PR x u4 u11 b0 w W k s pos l u) (hb0 : b0 <= w.heap.size) (ds : Array Value) : ActV b0 (W.setRow (w.heap.size + 1 + 1) ds) { x with f11 := l } u4 u11 u :=
 ⟨h.h4.step flat_lv (setRow_grown _ _ _) (fun k hk cells fr he => (by cases hk; rw [h.rs] at he; cases he)), h.h11.step (flat_int _) (setRow_grown _ _ _) (fun k hk cells fr he => (by cases hk; rw [h.rs] at he; cases he)), ((Held.of h.hR).lower hb0).step flat_bool (setRow_grown _ _ _) (fun k hk cells fr he => (by cases hk; rw [h.rs] at he; cases he)), h.nl⟩
theorem read_p (p : Plan) (cp : List Value) (x : Act) (u4 u11 u12 : Value) (b i : Nat) (s0 : ByteArray) (n c : Nat) (b0 : Nat) (w : World) (hP : k25.K w p cp) (hV : ActV b0 w x u4 u11 u12) (h0 : w.cell? ⟨b, i, none⟩ = some (.string s0)) (hn : 1 <= n) (hc : n <= c) (hb0 : b0 <= w.heap.size) (hz : s0.size <= 134217728) (hx11 : x.f11 = []) (hu : u12 = .slice none 0 0) :
 Calls Tryz.prog 40 #[.agg cp.toArray, .agg #[.int .i64 x.f0, .int .i64 x.f1, .int .i64 x.f2, .int .i64 x.f3, u4, .int .u32 x.f5, .int .u32 x.f6, .int .u32 x.f7, .int .u64 x.f8.f0, .int .u64 x.f8.f1, .int .i64 x.f9, u11, u12], .int .i32 112, .slice (some ⟨b, i, none⟩) n c] w (ReadP b0 w ({ x with f11 := pickR s0 })) := by
 subst hu
 have hsz : s0.size <= 134217728 := hz
 obtain ⟨R, hR⟩ : ∃ R, pickR s0 = R := ⟨_, rfl⟩
 have HR0 := Zz.mk (show ([] : List Bool) ++ prs (rns s0 s0.size 0) = R from hR)
 rw [hR]
 clear hR
 obtain ⟨P0, X0, S0, HV⟩ := rd_pre cp hV
 have cD := Lib.hid (fun W => digits_walk s0 W (by omega))
 have hlt := World.block_lt_of_cell? w _ h0
 have k0 := (P0.out.hb.cell (p := ⟨b, i, none⟩) hlt).trans h0
 have H0 := Zz.mk h0
 obtain ⟨B2, d2, B3, d3, rfl, m2, e2, m3, e3⟩ := k25_open hP
 have hn1 : (0 : Int) < (n : Int) := by omega
 clear hP e2 m2 e3 m3 hV h0
 generalize hm : numS s0 = m at *
 clear hm
 go_enter Tryz.func40, Tryz.ntmps40
 go_wp2_with fail
 refine (cD.out _).mono ?_
 rintro e v ⟨rfl, hb⟩
 replace P0 := Zz.mk (P0.out.next hb)
 replace X0 := Zz.mk (X0.out.next hb)
 replace S0 := Zz.mk (S0.out.next hb)
 replace HV := Zz.mk (HV.out.below hb)
 clear hb cD k0
 have k1 := (P0.out.hb.cell (p := ⟨b, i, none⟩) hlt).trans H0.out
 have hks : w.heap.size + 1 + 1 < v.heap.size := S0.out.lt
 have HP := Zz.mk (⟨iter_new v s0, X0.out.next (below_iter0 v s0) |>.row, S0.out.next (below_iter0 v s0) |>.row, (P0.out.next (below_iter0 v s0)).hb, (HV.out.below (below_iter0 v s0)).h4, (HV.out.below (below_iter0 v s0)).h11, Kd.R_nil _ _ _ _ _, fun _ => rfl, hks⟩ : PR x u4 u11 b0 w (v.iter s0 0) v.heap.size s0 0 [] (.slice none 0 0))
 clear P0 X0 S0 HV
 go_wp2
 go_loopw [14] (fun v14 wr => ∃ (pos fuel : Nat) (l : List Bool) (u : Value), pos <= s0.size /\ l.length <= pos /\ Zz (l ++ prs (rns s0 fuel pos) = R /\ s0.size <= pos + fuel) /\ Zz (PR x u4 u11 b0 w wr v.heap.size s0 pos l u)) (fun _ wr => s0.size - wr.iterPos v.heap.size)
 case atStart => exact ⟨0, s0.size, [], .slice none 0 0, by omega, by simp, ⟨HR0.out, by omega⟩, HP⟩
 case round =>
  clear HP HR0 k1
  obtain ⟨pos, fuel, l, u, hpl, hll, hF, HP⟩ := hrel
  by_cases hp : pos < s0.size
  · have hwl := width_le s0 pos hp
    have hw1 := Lib.decode_width_pos s0 pos hp
    obtain ⟨f2, hf2, he2⟩ := rns_step s0 fuel pos hp hF.out.2
    have hnx := fun ty => Lib.run_next_any_at (P := Tryz.prog) wr v.heap.size s0 pos ty HP.out.it hp
    have HM0 := iter_less hw1 HP.out.it hp
    have HMM : Zz (s0.size - (pos + (Utf8.decode s0 pos).2) < s0.size - wr.iterPos v.heap.size) := ⟨by rwa [iterPos_of (HP.out.iter (pos + (Utf8.decode s0 pos).2)).it] at HM0⟩
    replace HP := Zz.mk (HP.out.iter (pos + (Utf8.decode s0 pos).2))
    clear HM0
    generalize hd : Utf8.decode s0 pos = d at *
    obtain ⟨r, wd⟩ := d
    simp only at *
    have HF := hF.out.1
    rw [he2] at HF
    clear he2 hF hd
    generalize hWI : wr.iterAt v.heap.size s0 (pos + wd) = wi at *
    by_cases h46 : r = 46
    · subst h46
      rw [prs_dot] at HF
      have HF2 : Zz (l ++ prs (rns s0 f2 (pos + wd)) = R /\ s0.size <= (pos + wd) + f2) := ⟨HF, hf2⟩
      clear HF
      go_wp2_with fail
      go_roundw
      case rel => exact ⟨pos + wd, f2, l, u, hwl.1, by omega, HF2, HP⟩
      case measure => rw [iterPos_of HP.out.it]; exact HMM.out
    · rw [prs_cons _ _ _ _ h46] at HF
      have t46 : (((r : Nat) : Int) == 46) = false := beq_eq_false_iff_ne.2 (by omega)
      have n46 : ¬ ((r : Nat) : Int) = 46 := by omega
      obtain ⟨y, hy⟩ : ∃ y, (((r : Nat) : Int) == 43) = y := ⟨_, rfl⟩
      have HF2 : Zz ((l ++ [y]) ++ prs (rns s0 f2 (pos + wd)) = R /\ s0.size <= (pos + wd) + f2) := ⟨by rw [<- hy]; simpa using HF, hf2⟩
      clear HF
      have q12 := blk_cell HP.out.bx 12
      have hbs : w.heap.size <= wi.heap.size := HP.out.hb.size
      go_wp2_with (first
       | ((with_reducible refine gate_builtin (b := .append) (xs := #[.tmp 137, .tmp 140]) rfl ?_)
          at_builtin
          refine Kd.R_append Kd.bool (w0 := w) w.heap.size rfl (.tmp 137) (.tmp 140) 32 4 (.bool false) 1 rfl Tryz.underlying32 ExtQ.info_bool rfl (by decide) (by omega) u l y [.bool y] (fun _ => True) (fun _ => False) rfl rfl rfl (fun _ hk => hk.elim) (fun _ _ => trivial) HP.out.hR HP.out.hb (by omega) (by omega) ?_
          intro v2 w2 ho hb hg hat
          have qq := blk_cell (HP.out.kept hg) 12
          have zz := blk_free (HP.out.kept hg) 12
          obtain ⟨A2, c2, rfl⟩ := Kd.R_slice ho
          have HP2 := Zz.mk (HP.out.app hg hb ho)
          rw [List.length_append, List.length_singleton] at HP2
          clear ho hb hg hat)
       | fail)
      go_roundw
      case rel => exact ⟨pos + wd, f2, l ++ [y], _, hwl.1, by rw [List.length_append, List.length_singleton]; omega, HF2, HP2⟩
      case measure => rw [iterPos_of HP2.out.it]; exact HMM.out
  · have hnx := fun ty => Lib.run_next_end_at (P := Tryz.prog) wr v.heap.size s0 pos ty HP.out.it hp
    obtain rfl : l = R := by have := hF.out.1; rw [rns_end s0 fuel pos hp] at this; simpa [prs] using this
    clear hF
    have HX := Zz.mk HP.out.bx
    have HS := Zz.mk HP.out.rs
    have HB := Zz.mk HP.out.hb
    obtain ⟨q0, q1, q2, q3, q4, q5, q6, q7, q8, q9, q10, q11, q12⟩ := cls13 HX.out
    go_wp2_with (first
     | (refine wpList_store_row rfl 34 (.tmp 8) (.tmp 143) rfl (w.heap.size + 1 + 1) #[.int .i64 x.f0, .int .i64 x.f1, .int .i64 x.f2, .int .i64 x.f3, u4, .int .u32 x.f5, .int .u32 x.f6, .int .u32 x.f7, .int .u64 x.f8.f0, .int .u64 x.f8.f1, .int .i64 x.f9, u11, u] rfl rfl 34 _ HS.out actC_info2 rfl (cells_one { x with f11 := l } _ _ _ HP.out.ones) ?_)
     | fail)
    refine bodyPost_ret (v := .agg #[.int .i64 x.f0, .int .i64 x.f1, .int .i64 x.f2, .int .i64 x.f3, u4, .int .u32 x.f5, .int .u32 x.f6, .int .u32 x.f7, .int .u64 x.f8.f0, .int .u64 x.f8.f1, .int .i64 x.f9, u11, u]) (results_cell1 Tryz.results40 _ _ _ (w.heap.size + 1 + 1) rfl _ (run_loadVar_row _ (w.heap.size + 1 + 1) 34 34 _ (0, 0) _ (setRow_heap _ _ _ _ _ _ HS.out) Tryz.underlying34 rfl actC_info2)) rfl ?_
    exact ⟨_, _, _, rfl, HP.out.fin hb0 _, below_setRow HB.out (by omega) _⟩
theorem read_s_x1 (p : Plan) (cp : List Value) (x : Act) (u4 u11 u12 : Value) (b i : Nat) (s0 : ByteArray) (tl : List ByteArray) (c : Nat) (b0 : Nat) (w : World) (hP : k25.K w p cp) (hV : ActV b0 w x u4 u11 u12) (hst : ExtQ.StrAt w (some ⟨b, i, none⟩) (s0 :: tl)) (hc : tl.length + 1 <= c) (hl : tl.length <= 1073741824) (hb0 : b0 <= w.heap.size) (hz : s0.size <= 134217728) (hzt : ∀ s ∈ tl, s.size <= 134217728) (hx : s0 = xmssB) (ht : tl = []) :
 Calls Tryz.prog 40 #[.agg cp.toArray, .agg #[.int .i64 x.f0, .int .i64 x.f1, .int .i64 x.f2, .int .i64 x.f3, u4, .int .u32 x.f5, .int .u32 x.f6, .int .u32 x.f7, .int .u64 x.f8.f0, .int .u64 x.f8.f1, .int .i64 x.f9, u11, u12], .int .i32 115, .slice (some ⟨b, i, none⟩) (tl.length + 1) c] w (ReadP b0 w ({ x with f3 := 1, f4 := tl.map lvR })) := by
 have TT := Zz.mk (show s0.toList = [120, 109, 115, 115] from (by rw [hx]; decide +kernel))
 clear hx
 have h0 := hst.head
 have n := tl.length + 1
 have hn : 1 <= tl.length + 1 := by omega
 have wt := words_tail2 b i tl.length c hc
 have HSA := Zz.mk (words_left2 w b i c s0 tl hc hst)
 obtain ⟨G, hG⟩ : ∃ G : Addr, (if c = 1 then ⟨b, i, none⟩ else ⟨b, i + 1, none⟩) = G := ⟨_, rfl⟩
 rw [hG] at wt HSA
 clear hG
 have cV := Lib.hid (fun W (hW : Below w.heap.size w W) => r_levels (some G) (c - 1) tl W (strAt_C (HSA.out.below hW) hl) (by omega) hl (fun j => (show _ <= 1099511627776 from by
  rw [List.getD_eq_getElem?_getD]
  cases hj : tl[j]? with
  | none => exact Nat.zero_le _
  | some s => exact Nat.le_trans (hzt s (List.mem_of_getElem? hj)) (by omega))))
 obtain ⟨P0, X0, S0, HV⟩ := rd_pre cp hV
 have cD := Lib.hid (fun W => digits_walk s0 W (by omega))
 have hlt := World.block_lt_of_cell? w _ h0
 have k0 := (P0.out.hb.cell (p := ⟨b, i, none⟩) hlt).trans h0
 have H0 := Zz.mk h0
 obtain ⟨B2, d2, B3, d3, rfl, m2, e2, m3, e3⟩ := k25_open hP
 have hn1 : (0 : Int) < ((tl.length : Int) + 1) := by omega
 clear hP e2 m2 e3 m3 hV h0
 generalize hm : numS s0 = m at *
 have hn2 : ¬ (1 : Int) < ((tl.length : Int) + 1) := by rw [ht]; simp
 clear ht
 clear hm hst hzt
 go_enter Tryz.func40, Tryz.ntmps40
 go_wp2_with fail
 refine (cD.out _).mono ?_
 rintro e v ⟨rfl, hb⟩
 replace P0 := Zz.mk (P0.out.next hb)
 replace X0 := Zz.mk (X0.out.next hb)
 replace S0 := Zz.mk (S0.out.next hb)
 replace HV := Zz.mk (HV.out.below hb)
 clear hb cD k0
 have q := blk_cell X0.out.row 3
 have z := blk_free X0.out.row 3
 have HX : Zz ((v.setCell ⟨w.heap.size + 1, 3, none⟩ (.int .i64 (1))).heap[w.heap.size + 1]? = some (.cells #[.int .i64 x.f0, .int .i64 x.f1, .int .i64 x.f2, .int .i64 1, u4, .int .u32 x.f5, .int .u32 x.f6, .int .u32 x.f7, .int .u64 x.f8.f0, .int .u64 x.f8.f1, .int .i64 x.f9, u11, u12] 34)) := ⟨blk_set X0.out.row 3 (.int .i64 (1))⟩
 have HS := Zz.mk (ExtQ.row_step S0.out.row (ExtQ.setCell_grown v (w.heap.size + 1) 3 (.int .i64 (1))) (by omega))
 have HB := Zz.mk (P0.out.hb.setCell (p := ⟨w.heap.size + 1, 3, none⟩) (by show _ <= w.heap.size + 1; omega) (.int .i64 (1)))
 have HV2 := Zz.mk (HV.out.set X0.out.row 3 (.int .i64 (1)))
 have HX3 := HX
 have HS3 := HS
 have HB3 := HB
 have HV3 := HV2
 clear HX HS HB HV2
 go_wp2_with fail
 refine (cV.out _ HB3.out).mono ?_
 rintro e v1 ⟨⟨u, rfl, hR⟩, hb⟩
 have HX4 := Zz.mk (krow HX3.out hb)
 have HS4 := Zz.mk (krow HS3.out hb)
 have HB4 := Zz.mk (HB3.out.trans (hb.mono HB3.out.size))
 have HV4 := Zz.mk (HV3.out.below hb)
 have HH := Zz.mk ((Held.of hR).lower (show b0 <= _ from Nat.le_trans hb0 HB3.out.size))
 obtain ⟨A4, c4, rfl, -, -⟩ := Kd.R_reads hR
 clear hR
 generalize (tl.map lvR).length = N at *
 have k1 := (HB4.out.cell (p := ⟨b, i, none⟩) hlt).trans H0.out
 clear hb cV HX3 HS3 HB3 HV3 q z
 have q := blk_cell HX4.out 4
 have z := blk_free HX4.out 4
 have HX : Zz ((v1.setCell ⟨w.heap.size + 1, 4, none⟩ (.slice A4 N c4)).heap[w.heap.size + 1]? = some (.cells #[.int .i64 x.f0, .int .i64 x.f1, .int .i64 x.f2, .int .i64 1, (.slice A4 N c4), .int .u32 x.f5, .int .u32 x.f6, .int .u32 x.f7, .int .u64 x.f8.f0, .int .u64 x.f8.f1, .int .i64 x.f9, u11, u12] 34)) := ⟨blk_set HX4.out 4 (.slice A4 N c4)⟩
 have HS := Zz.mk (ExtQ.row_step HS4.out (ExtQ.setCell_grown v1 (w.heap.size + 1) 4 (.slice A4 N c4)) (by omega))
 have HB := Zz.mk (HB4.out.setCell (p := ⟨w.heap.size + 1, 4, none⟩) (by show _ <= w.heap.size + 1; omega) (.slice A4 N c4))
 have HV2 := Zz.mk (HV4.out.set HX4.out 4 (.slice A4 N c4))
 have k2 : (v1.setCell ⟨w.heap.size + 1, 4, none⟩ (.slice A4 N c4)).cell? ⟨b, i, none⟩ = some (.string s0) := (HB.out.cell (p := ⟨b, i, none⟩) hlt).trans H0.out
 have HH2 := Zz.mk (HH.out.step flat_lv (ExtQ.setCell_grown v1 (w.heap.size + 1) 4 (.slice A4 N c4)) (fun k hk cells fr he => (by cases hk; rw [HX4.out] at he; cases he)))
 go_upto_region 28 with fail
 generalize v1.setCell ⟨w.heap.size + 1, 4, none⟩ (.slice A4 N c4) = W5 at *
 clear q z k1 HX4 HS4 HB4 HH
 have tt := TT.out
 obtain ⟨q0, q1, q2, q3, q4, q5, q6, q7, q8, q9, q10, q11, q12⟩ := cls13 HX.out
 go_wp2_with (first
  | (refine wpList_store_row rfl 34 (.tmp 8) (.tmp 143) rfl (w.heap.size + 1 + 1) #[.int .i64 x.f0, .int .i64 x.f1, .int .i64 x.f2, .int .i64 1, (.slice A4 N c4), .int .u32 x.f5, .int .u32 x.f6, .int .u32 x.f7, .int .u64 x.f8.f0, .int .u64 x.f8.f1, .int .i64 x.f9, u11, u12] rfl rfl 34 _ HS.out actC_info2 rfl (cells_one { x with f3 := 1 } _ _ _ ⟨rfl, HV4.out.ones.2.1, HV4.out.ones.2.2⟩) ?_)
  | fail)
 refine bodyPost_ret (v := .agg #[.int .i64 x.f0, .int .i64 x.f1, .int .i64 x.f2, .int .i64 1, (.slice A4 N c4), .int .u32 x.f5, .int .u32 x.f6, .int .u32 x.f7, .int .u64 x.f8.f0, .int .u64 x.f8.f1, .int .i64 x.f9, u11, u12]) (results_cell1 Tryz.results40 _ _ _ (w.heap.size + 1 + 1) rfl _ (run_loadVar_row _ (w.heap.size + 1 + 1) 34 34 _ (0, 0) _ (setRow_heap _ _ _ _ _ _ HS.out) Tryz.underlying34 rfl actC_info2)) rfl ?_
 exact ⟨_, _, _, rfl, ⟨HH2.out.step flat_lv (setRow_grown _ _ _) (fun k hk cells fr he => (by cases hk; rw [HS.out] at he; cases he)), (HV2.out.setR HS.out _).h11, (HV2.out.setR HS.out _).h12, HV2.out.nl⟩, below_setRow HB.out (by omega) _⟩
theorem read_s_x2 (p : Plan) (cp : List Value) (x : Act) (u4 u11 u12 : Value) (b i : Nat) (s0 : ByteArray) (tl : List ByteArray) (c : Nat) (b0 : Nat) (w : World) (hP : k25.K w p cp) (hV : ActV b0 w x u4 u11 u12) (hst : ExtQ.StrAt w (some ⟨b, i, none⟩) (s0 :: tl)) (hc : tl.length + 1 <= c) (hl : tl.length <= 1073741824) (hb0 : b0 <= w.heap.size) (hz : s0.size <= 134217728) (hzt : ∀ s ∈ tl, s.size <= 134217728) (hx : s0 = xmssB) (s1 : ByteArray) (t2 : List ByteArray) (ht : tl = s1 :: t2) :
 Calls Tryz.prog 40 #[.agg cp.toArray, .agg #[.int .i64 x.f0, .int .i64 x.f1, .int .i64 x.f2, .int .i64 x.f3, u4, .int .u32 x.f5, .int .u32 x.f6, .int .u32 x.f7, .int .u64 x.f8.f0, .int .u64 x.f8.f1, .int .i64 x.f9, u11, u12], .int .i32 115, .slice (some ⟨b, i, none⟩) (tl.length + 1) c] w (ReadP b0 w ({ x with f3 := 2, f4 := [], f5 := (ExtP.codeS s1).2.1 })) := by
 have h1 : w.cell? ⟨b, i + 1, none⟩ = some (.string s1) := by rw [ht] at hst; exact hst.tail.head
 have hz1 : s1.size <= 134217728 := hzt s1 (by rw [ht]; exact List.mem_cons_self)
 have hn2 : (1 : Int) < ((tl.length : Int) + 1) := by rw [ht, List.length_cons]; omega
 have hlt2 := World.block_lt_of_cell? w _ h1
 have H1 := Zz.mk h1
 have cC := Lib.hid (fun W => ExtP.r_Code s1 W (by omega))
 clear ht h1
 generalize ExtP.codeS s1 = C1 at *
 have TT := Zz.mk (show s0.toList = [120, 109, 115, 115] from (by rw [hx]; decide +kernel))
 clear hx
 have h0 := hst.head
 have n := tl.length + 1
 have hn : 1 <= tl.length + 1 := by omega
 have wt := words_tail2 b i tl.length c hc
 have HSA := Zz.mk (words_left2 w b i c s0 tl hc hst)
 obtain ⟨G, hG⟩ : ∃ G : Addr, (if c = 1 then ⟨b, i, none⟩ else ⟨b, i + 1, none⟩) = G := ⟨_, rfl⟩
 rw [hG] at wt HSA
 clear hG
 have cV := Lib.hid (fun W (hW : Below w.heap.size w W) => r_levels (some G) (c - 1) tl W (strAt_C (HSA.out.below hW) hl) (by omega) hl (fun j => (show _ <= 1099511627776 from by
  rw [List.getD_eq_getElem?_getD]
  cases hj : tl[j]? with
  | none => exact Nat.zero_le _
  | some s => exact Nat.le_trans (hzt s (List.mem_of_getElem? hj)) (by omega))))
 obtain ⟨P0, X0, S0, HV⟩ := rd_pre cp hV
 have cD := Lib.hid (fun W => digits_walk s0 W (by omega))
 have hlt := World.block_lt_of_cell? w _ h0
 have k0 := (P0.out.hb.cell (p := ⟨b, i, none⟩) hlt).trans h0
 have H0 := Zz.mk h0
 obtain ⟨B2, d2, B3, d3, rfl, m2, e2, m3, e3⟩ := k25_open hP
 have hn1 : (0 : Int) < ((tl.length : Int) + 1) := by omega
 clear hP e2 m2 e3 m3 hV h0
 generalize hm : numS s0 = m at *
 clear hm hst hzt
 go_enter Tryz.func40, Tryz.ntmps40
 go_wp2_with fail
 refine (cD.out _).mono ?_
 rintro e v ⟨rfl, hb⟩
 replace P0 := Zz.mk (P0.out.next hb)
 replace X0 := Zz.mk (X0.out.next hb)
 replace S0 := Zz.mk (S0.out.next hb)
 replace HV := Zz.mk (HV.out.below hb)
 clear hb cD k0
 have q := blk_cell X0.out.row 3
 have z := blk_free X0.out.row 3
 have HX : Zz ((v.setCell ⟨w.heap.size + 1, 3, none⟩ (.int .i64 (1))).heap[w.heap.size + 1]? = some (.cells #[.int .i64 x.f0, .int .i64 x.f1, .int .i64 x.f2, .int .i64 1, u4, .int .u32 x.f5, .int .u32 x.f6, .int .u32 x.f7, .int .u64 x.f8.f0, .int .u64 x.f8.f1, .int .i64 x.f9, u11, u12] 34)) := ⟨blk_set X0.out.row 3 (.int .i64 (1))⟩
 have HS := Zz.mk (ExtQ.row_step S0.out.row (ExtQ.setCell_grown v (w.heap.size + 1) 3 (.int .i64 (1))) (by omega))
 have HB := Zz.mk (P0.out.hb.setCell (p := ⟨w.heap.size + 1, 3, none⟩) (by show _ <= w.heap.size + 1; omega) (.int .i64 (1)))
 have HV2 := Zz.mk (HV.out.set X0.out.row 3 (.int .i64 (1)))
 have HX3 := HX
 have HS3 := HS
 have HB3 := HB
 have HV3 := HV2
 clear HX HS HB HV2
 go_wp2_with fail
 refine (cV.out _ HB3.out).mono ?_
 rintro e v1 ⟨⟨u, rfl, hR⟩, hb⟩
 have HX4 := Zz.mk (krow HX3.out hb)
 have HS4 := Zz.mk (krow HS3.out hb)
 have HB4 := Zz.mk (HB3.out.trans (hb.mono HB3.out.size))
 have HV4 := Zz.mk (HV3.out.below hb)
 have HH := Zz.mk ((Held.of hR).lower (show b0 <= _ from Nat.le_trans hb0 HB3.out.size))
 obtain ⟨A4, c4, rfl, -, -⟩ := Kd.R_reads hR
 clear hR
 generalize (tl.map lvR).length = N at *
 have k1 := (HB4.out.cell (p := ⟨b, i, none⟩) hlt).trans H0.out
 clear hb cV HX3 HS3 HB3 HV3 q z
 have q := blk_cell HX4.out 4
 have z := blk_free HX4.out 4
 have HX : Zz ((v1.setCell ⟨w.heap.size + 1, 4, none⟩ (.slice A4 N c4)).heap[w.heap.size + 1]? = some (.cells #[.int .i64 x.f0, .int .i64 x.f1, .int .i64 x.f2, .int .i64 1, (.slice A4 N c4), .int .u32 x.f5, .int .u32 x.f6, .int .u32 x.f7, .int .u64 x.f8.f0, .int .u64 x.f8.f1, .int .i64 x.f9, u11, u12] 34)) := ⟨blk_set HX4.out 4 (.slice A4 N c4)⟩
 have HS := Zz.mk (ExtQ.row_step HS4.out (ExtQ.setCell_grown v1 (w.heap.size + 1) 4 (.slice A4 N c4)) (by omega))
 have HB := Zz.mk (HB4.out.setCell (p := ⟨w.heap.size + 1, 4, none⟩) (by show _ <= w.heap.size + 1; omega) (.slice A4 N c4))
 have HV2 := Zz.mk (HV4.out.set HX4.out 4 (.slice A4 N c4))
 have k2 : (v1.setCell ⟨w.heap.size + 1, 4, none⟩ (.slice A4 N c4)).cell? ⟨b, i, none⟩ = some (.string s0) := (HB.out.cell (p := ⟨b, i, none⟩) hlt).trans H0.out
 have HH2 := Zz.mk (HH.out.step flat_lv (ExtQ.setCell_grown v1 (w.heap.size + 1) 4 (.slice A4 N c4)) (fun k hk cells fr he => (by cases hk; rw [HX4.out] at he; cases he)))
 go_upto_region 28 with fail
 generalize v1.setCell ⟨w.heap.size + 1, 4, none⟩ (.slice A4 N c4) = W5 at *
 clear q z k1 HX4 HS4 HB4 HH
 have tt := TT.out
 have ac6 := blk_cell HX.out 3
 have zc6 := blk_free HX.out 3
 have HX6 : Zz ((W5.setCell ⟨w.heap.size + 1, 3, none⟩ (.int .i64 2)).heap[w.heap.size + 1]? = some (.cells #[.int .i64 x.f0, .int .i64 x.f1, .int .i64 x.f2, .int .i64 2, (.slice A4 N c4), .int .u32 x.f5, .int .u32 x.f6, .int .u32 x.f7, .int .u64 x.f8.f0, .int .u64 x.f8.f1, .int .i64 x.f9, u11, u12] 34)) := ⟨blk_set HX.out 3 (.int .i64 2)⟩
 have HS6 := Zz.mk (ExtQ.row_step HS.out (ExtQ.setCell_grown W5 (w.heap.size + 1) 3 (.int .i64 2)) (by omega))
 have HB6 := Zz.mk (HB.out.setCell (p := ⟨w.heap.size + 1, 3, none⟩) (by show _ <= w.heap.size + 1; omega) (.int .i64 2))
 have HV6 := Zz.mk (HV2.out.set HX.out 3 (.int .i64 2))
 have ac7 := blk_cell HX6.out 4
 have zc7 := blk_free HX6.out 4
 have HX7 : Zz (((W5.setCell ⟨w.heap.size + 1, 3, none⟩ (.int .i64 2)).setCell ⟨w.heap.size + 1, 4, none⟩ (.slice none 0 0)).heap[w.heap.size + 1]? = some (.cells #[.int .i64 x.f0, .int .i64 x.f1, .int .i64 x.f2, .int .i64 2, (.slice none 0 0), .int .u32 x.f5, .int .u32 x.f6, .int .u32 x.f7, .int .u64 x.f8.f0, .int .u64 x.f8.f1, .int .i64 x.f9, u11, u12] 34)) := ⟨blk_set HX6.out 4 (.slice none 0 0)⟩
 have HS7 := Zz.mk (ExtQ.row_step HS6.out (ExtQ.setCell_grown (W5.setCell ⟨w.heap.size + 1, 3, none⟩ (.int .i64 2)) (w.heap.size + 1) 4 (.slice none 0 0)) (by omega))
 have HB7 := Zz.mk (HB6.out.setCell (p := ⟨w.heap.size + 1, 4, none⟩) (by show _ <= w.heap.size + 1; omega) (.slice none 0 0))
 have HV7 := Zz.mk (HV6.out.set HX6.out 4 (.slice none 0 0))
 have k3 := (HB7.out.cell (p := ⟨b, i + 1, none⟩) hlt2).trans H1.out
 go_wp2_with fail
 refine (cC.out _).mono ?_
 rintro e v2 ⟨rfl, hb⟩
 have HX8 := Zz.mk (krow HX7.out hb)
 have HS8 := Zz.mk (krow HS7.out hb)
 have HB8 := Zz.mk (HB7.out.trans (hb.mono HB7.out.size))
 have HV8 := Zz.mk (HV7.out.below hb)
 clear hb cC k2 k3 ac6 zc6 ac7 zc7 HX HS HB HV2 HX6 HS6 HB6 HV6 HX7 HS7 HB7 HV7 HH2
 have ac9 := blk_cell HX8.out 5
 have zc9 := blk_free HX8.out 5
 have HX9 : Zz ((v2.setCell ⟨w.heap.size + 1, 5, none⟩ (.int .u32 (C1.2.1))).heap[w.heap.size + 1]? = some (.cells #[.int .i64 x.f0, .int .i64 x.f1, .int .i64 x.f2, .int .i64 2, (.slice none 0 0), .int .u32 (C1.2.1), .int .u32 x.f6, .int .u32 x.f7, .int .u64 x.f8.f0, .int .u64 x.f8.f1, .int .i64 x.f9, u11, u12] 34)) := ⟨blk_set HX8.out 5 (.int .u32 (C1.2.1))⟩
 have HS9 := Zz.mk (ExtQ.row_step HS8.out (ExtQ.setCell_grown v2 (w.heap.size + 1) 5 (.int .u32 (C1.2.1))) (by omega))
 have HB9 := Zz.mk (HB8.out.setCell (p := ⟨w.heap.size + 1, 5, none⟩) (by show _ <= w.heap.size + 1; omega) (.int .u32 (C1.2.1)))
 have HV9 := Zz.mk (HV8.out.set HX8.out 5 (.int .u32 (C1.2.1)))
 have HX := HX9
 have HS := HS9
 have HB := HB9
 have HV2 := HV9
 clear HX9 HS9 HB9 HV9
 obtain ⟨q0, q1, q2, q3, q4, q5, q6, q7, q8, q9, q10, q11, q12⟩ := cls13 HX.out
 go_wp2_with (first
  | (refine wpList_store_row rfl 34 (.tmp 8) (.tmp 143) rfl (w.heap.size + 1 + 1) #[.int .i64 x.f0, .int .i64 x.f1, .int .i64 x.f2, .int .i64 2, (.slice none 0 0), .int .u32 (C1.2.1), .int .u32 x.f6, .int .u32 x.f7, .int .u64 x.f8.f0, .int .u64 x.f8.f1, .int .i64 x.f9, u11, u12] rfl rfl 34 _ HS.out actC_info2 rfl (cells_one { x with f3 := 2, f5 := C1.2.1 } _ _ _ ⟨rfl, HV8.out.ones.2.1, HV8.out.ones.2.2⟩) ?_)
  | fail)
 refine bodyPost_ret (v := .agg #[.int .i64 x.f0, .int .i64 x.f1, .int .i64 x.f2, .int .i64 2, (.slice none 0 0), .int .u32 (C1.2.1), .int .u32 x.f6, .int .u32 x.f7, .int .u64 x.f8.f0, .int .u64 x.f8.f1, .int .i64 x.f9, u11, u12]) (results_cell1 Tryz.results40 _ _ _ (w.heap.size + 1 + 1) rfl _ (run_loadVar_row _ (w.heap.size + 1 + 1) 34 34 _ (0, 0) _ (setRow_heap _ _ _ _ _ _ HS.out) Tryz.underlying34 rfl actC_info2)) rfl ?_
 exact ⟨_, _, _, rfl, ⟨Held.nil _ _ _ _, (HV2.out.setR HS.out _).h11, (HV2.out.setR HS.out _).h12, HV2.out.nl⟩, below_setRow HB.out (by omega) _⟩
theorem rr_s0 (nl : List ByteArray) (s0 : ByteArray) (x : Act) : readR nl (((115 : UInt8).toNat : Nat) : Int) s0 [] x = { x with f3 := 1, f4 := [] } := by unfold readR; simp
theorem rr_sh2 (nl : List ByteArray) (s0 s1 : ByteArray) (tl : List ByteArray) (x : Act) (h : s0 ≠ xmssB) : readR nl (((115 : UInt8).toNat : Nat) : Int) s0 (s1 :: tl) x = { x with f3 := 1, f4 := (s1 :: tl).map lvR } := by unfold readR; simp [h]
theorem rr_r1 (nl : List ByteArray) (s0 : ByteArray) (x : Act) : readR nl (((114 : UInt8).toNat : Nat) : Int) s0 [] x = { x with f8 := ⟨(numS s0).1, x.f8.f1⟩ } := by unfold readR; simp
theorem readR_f11 (nl : List ByteArray) (c : Int) (s0 : ByteArray) (tl : List ByteArray) (x : Act) (hc : c ∈ lets.map fun b => ((b.toNat : Nat) : Int)) (h : c ≠ 112) : (readR nl c s0 tl x).f11 = x.f11 := by
 unfold readR
 by_cases c0 : c = 100
 · rw [if_pos c0]
 rw [if_neg c0]
 by_cases c1 : c = 116
 · rw [if_pos c1]
 rw [if_neg c1]
 by_cases c2 : c = 107
 · rw [if_pos c2]
 rw [if_neg c2]
 by_cases c3 : c = 105
 · rw [if_pos c3]
 rw [if_neg c3]
 by_cases c4 : c = 98 \/ c = 110
 · rw [if_pos c4]; split <;> rfl
 rw [if_neg c4]
 by_cases c5 : c = 119 \/ c = 120
 · rw [if_pos c5]
 rw [if_neg c5]
 by_cases c6 : c = 109
 · rw [if_pos c6]
 rw [if_neg c6]
 by_cases c7 : c = 114
 · rw [if_pos c7]
 rw [if_neg c7]
 by_cases c8 : c = 115
 · rw [if_pos c8]
   cases tl with
   | nil => rfl
   | cons s t => simp only; split <;> rfl
 exfalso
 simp only [lets, List.map_cons, List.map_nil, List.mem_cons, List.not_mem_nil, or_false] at hc
 have e : ∀ n : Nat, ((n : Nat) : Int) = (n : Int) := fun _ => rfl
 rcases hc with rfl | rfl | rfl | rfl | rfl | rfl | rfl | rfl | rfl | rfl | rfl | rfl <;> first | exact c0 rfl | exact c1 rfl | exact c2 rfl | exact c3 rfl | exact c4 (.inl rfl) | exact c4 (.inr rfl) | exact c5 (.inl rfl) | exact c5 (.inr rfl) | exact c6 rfl | exact c7 rfl | exact c8 rfl | exact h rfl
theorem read_any (p : Plan) (cp : List Value) (x : Act) (u4 u11 u12 : Value) (b i : Nat) (s0 : ByteArray) (tl : List ByteArray) (c : Nat) (b0 : Nat) (w : World) (hP : k25.K w p cp) (hV : ActV b0 w x u4 u11 u12) (hst : ExtQ.StrAt w (some ⟨b, i, none⟩) (s0 :: tl)) (hc : tl.length + 1 <= c) (hl : tl.length <= 1073741824) (hb0 : b0 <= w.heap.size) (hz : s0.size <= 134217728) (hzt : ∀ s ∈ tl, s.size <= 134217728) (hpl : p.f2.length <= 1048576) (hpz : ∀ i, (p.f2.getD i ByteArray.empty).size <= 1073741824) (ch : UInt8) (hch : ch ∈ lets) (hpk : ch = 112 -> x.f11 = []) :
 Calls Tryz.prog 40 #[.agg cp.toArray, .agg #[.int .i64 x.f0, .int .i64 x.f1, .int .i64 x.f2, .int .i64 x.f3, u4, .int .u32 x.f5, .int .u32 x.f6, .int .u32 x.f7, .int .u64 x.f8.f0, .int .u64 x.f8.f1, .int .i64 x.f9, u11, u12], .int .i32 ((ch.toNat : Nat) : Int), .slice (some ⟨b, i, none⟩) (tl.length + 1) c] w (ReadP b0 w (readR p.f2 ((ch.toNat : Nat) : Int) s0 tl x)) := by
 have h0 := hst.head
 have h1 : 1 <= tl.length + 1 := by omega
 unfold lets at hch
 simp only [List.mem_cons, List.not_mem_nil, or_false] at hch
 rcases hch with rfl | rfl | rfl | rfl | rfl | rfl | rfl | rfl | rfl | rfl | rfl | rfl
 · rw [rr_w]
   exact read_w 119 (.inl rfl) p cp x u4 u11 u12 b i s0 (tl.length + 1) c b0 w hP hV h0 h1 hc hb0 hz
 · rw [rr_m]
   exact read_m p cp x u4 u11 u12 b i s0 (tl.length + 1) c b0 w hP hV h0 h1 hc hb0 hz
 · rw [rr_x]
   exact read_w 120 (.inr rfl) p cp x u4 u11 u12 b i s0 (tl.length + 1) c b0 w hP hV h0 h1 hc hb0 hz
 · rw [rr_b]
   by_cases hle : (numS s0).1 <= 1073741824
   · rw [if_pos hle]
     exact read_b 98 (.inl rfl) p cp x u4 u11 u12 b i s0 (tl.length + 1) c b0 w hP hV h0 h1 hc hb0 hz hle
   · rw [if_neg hle]
     exact read_b0 98 (.inl rfl) p cp x u4 u11 u12 b i s0 (tl.length + 1) c b0 w hP hV h0 h1 hc hb0 hz hle
 · rw [rr_n]
   by_cases hle : (numS s0).1 <= 1073741824
   · rw [if_pos hle]
     exact read_b 110 (.inr rfl) p cp x u4 u11 u12 b i s0 (tl.length + 1) c b0 w hP hV h0 h1 hc hb0 hz hle
   · rw [if_neg hle]
     exact read_b0 110 (.inr rfl) p cp x u4 u11 u12 b i s0 (tl.length + 1) c b0 w hP hV h0 h1 hc hb0 hz hle
 · cases tl with
   | nil =>
     rw [rr_s0]
     by_cases hx : s0 = xmssB
     · exact read_s_x1 p cp x u4 u11 u12 b i s0 [] c b0 w hP hV hst hc hl hb0 hz hzt hx rfl
     · exact read_s_h p cp x u4 u11 u12 b i s0 [] c b0 w hP hV hst hc hl hb0 hz hzt hx
   | cons s1 tl =>
     by_cases hx : s0 = xmssB
     · subst hx
       rw [rr_sx]
       exact read_s_x2 p cp x u4 u11 u12 b i xmssB (s1 :: tl) c b0 w hP hV hst hc hl hb0 hz hzt rfl s1 tl rfl
     · rw [rr_sh2 _ _ _ _ _ hx]
       exact read_s_h p cp x u4 u11 u12 b i s0 (s1 :: tl) c b0 w hP hV hst hc hl hb0 hz hzt hx
 · rw [rr_d]
   exact read_d p cp x u4 u11 u12 b i s0 (tl.length + 1) c b0 w hP hV h0 h1 hc hb0 hz hpl hpz
 · rw [rr_t]
   exact read_t p cp x u4 u11 u12 b i s0 (tl.length + 1) c b0 w hP hV h0 h1 hc hb0 hz hpl hpz
 · rw [rr_k]
   exact read_k p cp x u4 u11 u12 b i s0 (tl.length + 1) c b0 w hP hV h0 h1 hc hb0 hz
 · rw [rr_i]
   exact read_i p cp x u4 u11 u12 b i s0 (tl.length + 1) c b0 w hP hV h0 h1 hc hb0 hz
 · cases tl with
   | nil =>
     rw [rr_r1]
     exact read_r1 p cp x u4 u11 u12 b i s0 1 c b0 w hP hV h0 (Nat.le_refl _) hc hb0 hz rfl
   | cons s1 tl =>
     rw [rr_r]
     exact read_r2 p cp x u4 u11 u12 b i s0 ((s1 :: tl).length + 1) c b0 w hP hV h0 h1 hc hb0 hz s1 hst.tail.head (by simp) (hzt s1 List.mem_cons_self)
 · have hf := hpk rfl
   rw [rr_p, hf, List.nil_append]
   exact read_p p cp x u4 u11 u12 b i s0 (tl.length + 1) c b0 w hP hV h0 h1 hc hb0 hz hf (hV.nl hf)
end Go.Proofs.YtpdinahdcedmkaaGreatDoor.Ext
