import Derived.Test.YtpdinahdcedmkaaGreatDoorK25
import Derived.Test.YtpdinahdcedmkaaGreatDoorK19
import Derived.Test.YtpdinahdcedmkaaGreatDoorK22
set_option linter.unusedVariables false
set_option linter.unusedSimpArgs false
set_option maxHeartbeats 16000000
set_option maxRecDepth 100000
/- liveryref27.Act, walked. -/
namespace Go.Proofs.YtpdinahdcedmkaaGreatDoor.Ext
open Go.Proofs.YtpdinahdcedmkaaGreatDoor.P
open Go.RowKit YtpdinahdcedmkaaGreatDoorW.PrintWords YtpdinahdcedmkaaGreatDoorW.PrintLast YtpdinahdcedmkaaGreatDoorW.PrintMore Go.Proofs.YtpdinahdcedmkaaGreatDoor.Spec
structure DR (p : Plan) (B2 : Option Addr) (d2 : Nat) (B3 : Option Addr) (d3 : Nat) (w W : World) : Prop where
 pl : W.heap[w.heap.size]? = some (.cells #[.int .i64 p.f0, .int .i64 p.f1, .slice B2 p.f2.length d2, .slice B3 p.f3.length d3] 25)
 rs : W.heap[w.heap.size + 1]? = some (.cells #[.int .i64 0, .int .i64 0, .int .i64 0, .int .i64 0, .slice none 0 0, .int .u32 0, .int .u32 0, .int .u32 0, .int .u64 0, .int .u64 0, .int .i64 0, .slice none 0 0, .slice none 0 0] 34)
 hb : Below w.heap.size w W
theorem DR.lt {p : Plan} {B2 : Option Addr} {d2 : Nat} {B3 : Option Addr} {d3 : Nat} {w W : World} (h : DR p B2 d2 B3 d3 w W) : w.heap.size + 1 < W.heap.size := (Array.getElem?_eq_some_iff.1 h.rs).1
theorem DR.below {p : Plan} {B2 : Option Addr} {d2 : Nat} {B3 : Option Addr} {d3 : Nat} {w W : World} {W' : World} (h : DR p B2 d2 B3 d3 w W) (hb : Below W.heap.size W W') : DR p B2 d2 B3 d3 w W' := ⟨krow h.pl hb, krow h.rs hb, h.hb.trans (hb.mono h.hb.size)⟩
theorem rowI_le (q : ByteArray) : ExtQ.rowI q <= 17 := by
 unfold ExtQ.rowI
 split <;> omega
theorem rowI_spec {q : ByteArray} (h : 1 <= ExtQ.rowI q) : (rowOf (ExtQ.rowI q)).1 = q := by
 unfold ExtQ.rowI at *
 by_cases hl : ExtQ.rowIx q < 18
 · rw [if_pos hl]
   unfold rowOf
   rw [if_pos (by omega), Int.toNat_natCast]
   have h' : rowTab.findIdx (fun x => decide (x.1 = q)) < rowTab.length := by rw [ExtQ.rowTab_len]; exact hl
   have h1 := List.findIdx_getElem (w := h')
   simp only [decide_eq_true_eq] at h1
   rw [List.getD_eq_getElem?_getD]
   show (rowTab[rowTab.findIdx (fun x => decide (x.1 = q))]?.getD _).1 = q
   rw [List.getElem?_eq_getElem h']
   exact h1
 · rw [if_neg hl] at h
   omega
theorem row_ne {q : ByteArray} {d : Nat} (h1 : 1 <= d) (h2 : d <= 17) (h : (d : Int) ≠ ExtQ.rowI q) : (rowOf (d : Int)).1 ≠ q := by
 intro e
 have := row_back ⟨d, by omega⟩ h1
 simp only at this
 rw [e] at this
 exact h this.symm
theorem ract_nw (p : Plan) (cp : List Value) (t : ByteArray) (w : World) (hP : k25.K w p cp) (hp : PlanBd p) (hs : t.size <= 40000) (hsm : ∀ i, (p.f2.getD i ByteArray.empty).size <= 1073741824) (hw : ExtQ.wordsS t = none) :
 Calls Tryz.prog 14 #[.agg cp.toArray, .string t] w (ActP none w) := by
 have cw := fun W => r_Words t W hs
 rw [hw] at cw
 simp only [Option.isSome_none, Option.isSome_some, Option.getD_none, Option.getD_some] at cw
 replace cw := Lib.hid cw
 clear hp hs hw hsm
 have P0 := Zz.mk ((Bx.new w cp 25).push (.cells #[.int .i64 0, .int .i64 0, .int .i64 0, .int .i64 0, .slice none 0 0, .int .u32 0, .int .u32 0, .int .u32 0, .int .u64 0, .int .u64 0, .int .i64 0, .slice none 0 0, .slice none 0 0] 34))
 have S0 := Zz.mk ((Bx.new w cp 25).on [.int .i64 0, .int .i64 0, .int .i64 0, .int .i64 0, .slice none 0 0, .int .u32 0, .int .u32 0, .int .u32 0, .int .u64 0, .int .u64 0, .int .i64 0, .slice none 0 0, .slice none 0 0] 34 |>.at_ (show _ = w.heap.size + 1 by simp))
 obtain ⟨B2, d2, B3, d3, rfl, m2, e2, m3, e3⟩ := k25_open hP
 clear hP m2 e2 m3 e3
 go_enter Tryz.func14, Tryz.ntmps14
 go_wp2_with (first
  | (go_at_call 39
     with_reducible refine (cw.out _).mono ?_
     rintro e v1 ⟨⟨u, rfl, hR⟩, hb⟩
     have HDR := Zz.mk (⟨krow P0.out.row hb, krow S0.out.row hb, P0.out.hb.trans (hb.mono P0.out.hb.size)⟩ : DR p B2 d2 B3 d3 w v1)
     obtain ⟨A1, c1, rfl, -, -⟩ := Kd.R_reads hR
     clear hR
     clear hb)
  | (refine wpList_store_row rfl 34 (.tmp 4) (.tmp 27) rfl (w.heap.size + 1) #[.int .i64 0, .int .i64 0, .int .i64 0, .int .i64 0, .slice none 0 0, .int .u32 0, .int .u32 0, .int .u32 0, .int .u64 0, .int .u64 0, .int .i64 0, .slice none 0 0, .slice none 0 0] rfl rfl 34 _ HDR.out.rs actC_info2 rfl (by simp [Value.oneCell']) ?_)
  | fail)
 refine bodyPost_ret (v := .tuple #[.agg #[.int .i64 0, .int .i64 0, .int .i64 0, .int .i64 0, .slice none 0 0, .int .u32 0, .int .u32 0, .int .u32 0, .int .u64 0, .int .u64 0, .int .i64 0, .slice none 0 0, .slice none 0 0], .int .i64 270]) (ExtQ.results_cell2 Tryz.results14 _ _ _ (w.heap.size + 1) rfl _ (.int .i64 270) (run_loadVar_row _ (w.heap.size + 1) 34 34 _ (0, 0) _ (setRow_heap _ _ _ _ _ _ HDR.out.rs) Tryz.underlying34 rfl actC_info2) rfl) rfl ?_
 exact ⟨⟨_, rfl, K_zero _⟩, below_setRow HDR.out.hb (by omega) _⟩
theorem ract_nh (p : Plan) (cp : List Value) (t : ByteArray) (w : World) (hP : k25.K w p cp) (hp : PlanBd p) (hs : t.size <= 40000) (hsm : ∀ i, (p.f2.getD i ByteArray.empty).size <= 1073741824) (ws : List ByteArray) (hw : ExtQ.wordsS t = some ws) (hh : headedS p.f0 p.f1 p.f2 = false) :
 Calls Tryz.prog 14 #[.agg cp.toArray, .string t] w (ActP none w) := by
 have cw := fun W => r_Words t W hs
 rw [hw] at cw
 simp only [Option.isSome_none, Option.isSome_some, Option.getD_none, Option.getD_some] at cw
 replace cw := Lib.hid cw
 have ch := fun W (hW : Below w.heap.size w W) => r_head p cp W (k25.K_below hW hP) hp hsm
 rw [hh] at ch
 replace ch := Lib.hid ch
 clear hp hs hw hsm hh
 have P0 := Zz.mk ((Bx.new w cp 25).push (.cells #[.int .i64 0, .int .i64 0, .int .i64 0, .int .i64 0, .slice none 0 0, .int .u32 0, .int .u32 0, .int .u32 0, .int .u64 0, .int .u64 0, .int .i64 0, .slice none 0 0, .slice none 0 0] 34))
 have S0 := Zz.mk ((Bx.new w cp 25).on [.int .i64 0, .int .i64 0, .int .i64 0, .int .i64 0, .slice none 0 0, .int .u32 0, .int .u32 0, .int .u32 0, .int .u64 0, .int .u64 0, .int .i64 0, .slice none 0 0, .slice none 0 0] 34 |>.at_ (show _ = w.heap.size + 1 by simp))
 obtain ⟨B2, d2, B3, d3, rfl, m2, e2, m3, e3⟩ := k25_open hP
 clear hP m2 e2 m3 e3
 go_enter Tryz.func14, Tryz.ntmps14
 go_wp2_with (first
  | (go_at_call 39
     with_reducible refine (cw.out _).mono ?_
     rintro e v1 ⟨⟨u, rfl, hR⟩, hb⟩
     have HDR := Zz.mk (⟨krow P0.out.row hb, krow S0.out.row hb, P0.out.hb.trans (hb.mono P0.out.hb.size)⟩ : DR p B2 d2 B3 d3 w v1)
     obtain ⟨A1, c1, rfl, -, -⟩ := Kd.R_reads hR
     clear hR
     obtain ⟨r0, r1, r2, r3⟩ := cls4 HDR.out.pl
     clear hb)
  | (go_at_call 27
     with_reducible refine (ch.out _ HDR.out.hb).mono ?_
     rintro e v2 ⟨rfl, hb⟩
     replace HDR := Zz.mk (HDR.out.below hb)
     clear hb)
  | (refine wpList_store_row rfl 34 (.tmp 4) (.tmp 27) rfl (w.heap.size + 1) #[.int .i64 0, .int .i64 0, .int .i64 0, .int .i64 0, .slice none 0 0, .int .u32 0, .int .u32 0, .int .u32 0, .int .u64 0, .int .u64 0, .int .i64 0, .slice none 0 0, .slice none 0 0] rfl rfl 34 _ HDR.out.rs actC_info2 rfl (by simp [Value.oneCell']) ?_)
  | fail)
 refine bodyPost_ret (v := .tuple #[.agg #[.int .i64 0, .int .i64 0, .int .i64 0, .int .i64 0, .slice none 0 0, .int .u32 0, .int .u32 0, .int .u32 0, .int .u64 0, .int .u64 0, .int .i64 0, .slice none 0 0, .slice none 0 0], .int .i64 270]) (ExtQ.results_cell2 Tryz.results14 _ _ _ (w.heap.size + 1) rfl _ (.int .i64 270) (run_loadVar_row _ (w.heap.size + 1) 34 34 _ (0, 0) _ (setRow_heap _ _ _ _ _ _ HDR.out.rs) Tryz.underlying34 rfl actC_info2) rfl) rfl ?_
 exact ⟨⟨_, rfl, K_zero _⟩, below_setRow HDR.out.hb (by omega) _⟩
theorem ract_norow (p : Plan) (cp : List Value) (t : ByteArray) (w : World) (hP : k25.K w p cp) (hp : PlanBd p) (hs : t.size <= 40000) (hsm : ∀ i, (p.f2.getD i ByteArray.empty).size <= 1073741824) (q : ByteArray) (tl : List ByteArray) (hw : ExtQ.wordsS t = some (q :: tl)) (hh : headedS p.f0 p.f1 p.f2 = true) (hr : ExtQ.rowI q < 1) :
 Calls Tryz.prog 14 #[.agg cp.toArray, .string t] w (ActP none w) := by
 have cw := fun W => r_Words t W hs
 rw [hw] at cw
 simp only [Option.isSome_none, Option.isSome_some, Option.getD_none, Option.getD_some] at cw
 replace cw := Lib.hid cw
 have ch := fun W (hW : Below w.heap.size w W) => r_head p cp W (k25.K_below hW hP) hp hsm
 rw [hh] at ch
 replace ch := Lib.hid ch
 have cname := Lib.hid (fun d W => r_RName d W)
 have HNE := Zz.mk (fun (d : Nat) (h1 : 1 <= d) (h2 : d <= 17) => row_ne (q := q) h1 h2 (by omega))
 clear hp hs hw hsm hh hr
 have P0 := Zz.mk ((Bx.new w cp 25).push (.cells #[.int .i64 0, .int .i64 0, .int .i64 0, .int .i64 0, .slice none 0 0, .int .u32 0, .int .u32 0, .int .u32 0, .int .u64 0, .int .u64 0, .int .i64 0, .slice none 0 0, .slice none 0 0] 34))
 have S0 := Zz.mk ((Bx.new w cp 25).on [.int .i64 0, .int .i64 0, .int .i64 0, .int .i64 0, .slice none 0 0, .int .u32 0, .int .u32 0, .int .u32 0, .int .u64 0, .int .u64 0, .int .i64 0, .slice none 0 0, .slice none 0 0] 34 |>.at_ (show _ = w.heap.size + 1 by simp))
 obtain ⟨B2, d2, B3, d3, rfl, m2, e2, m3, e3⟩ := k25_open hP
 clear hP m2 e2 m3 e3
 go_enter Tryz.func14, Tryz.ntmps14
 go_wp2_with (first
  | (go_at_call 39
     with_reducible refine (cw.out _).mono ?_
     rintro e v1 ⟨⟨u, rfl, hR⟩, hb⟩
     have HDR := Zz.mk (⟨krow P0.out.row hb, krow S0.out.row hb, P0.out.hb.trans (hb.mono P0.out.hb.size)⟩ : DR p B2 d2 B3 d3 w v1)
     obtain ⟨g, kc, rfl, hcw, hst1⟩ := ExtQ.str_row hR (by simp)
     rw [List.length_cons] at hcw
     have HST := Zz.mk hst1
     clear hR hst1
     obtain ⟨r0, r1, r2, r3⟩ := cls4 HDR.out.pl
     clear hb)
  | (go_at_call 27
     with_reducible refine (ch.out _ HDR.out.hb).mono ?_
     rintro e v2 ⟨rfl, hb⟩
     replace HST := Zz.mk (HST.out.below hb)
     replace HDR := Zz.mk (HDR.out.below hb)
     clear hb)
  | fail)
 clear r0 r1 r2 r3
 go_loopw [8] (fun v8 wr => ∃ d : Nat, v8 = .int .i64 d /\ 1 <= d /\ d <= 18 /\ Zz (DR p B2 d2 B3 d3 w wr) /\ Zz (ExtQ.StrAt wr (some ⟨g, 0, none⟩) (q :: tl))) (fun v8 _ => 18 - (intOf v8).toNat)
 case atStart => exact ⟨1, rfl, by omega, by omega, HDR, HST⟩
 case round =>
  clear HDR HST
  obtain ⟨d, rfl, h1, h18, HDR, HST⟩ := hrel
  by_cases hlt : d <= 17
  · have hd : (d : Int) <= 17 := by omega
    have hne := HNE.out d h1 hlt
    have tne := str_ne hne
    have cn := Lib.hid (cname.out (d : Int))
    generalize (rowOf (d : Int)).1 = nm at *
    clear hne
    have hD : Below wr.heap.size wr wr.drew := Below.drew (Below.refl _ _)
    have k0 := cellK HST.out.head hD
    replace HST := Zz.mk (HST.out.below hD)
    replace HDR := Zz.mk (HDR.out.below hD)
    clear hD
    go_upto_region 7 with fail
    refine wp_region_held_drew (S := fun W => W.cell? ⟨g, 0, none⟩ = some (.string q)) (by kernel_rfl) (k0) (fun hHeld => ?_)
    clear k0
    apply tkJ 0
    apply tkJ 2
    apply tkJ 3
    apply tkJ 4
    refine wpAnyH_ready (rs := [1]) (by kernel_rfl) (by simp) ?_
    refine AllReadyH.cons rfl (fun K hK => ?_) AllReadyH.nil
    go_simp
    go_at_call 29
    with_reducible refine (cn.out _).mono ?_
    rintro e u1 ⟨rfl, hbz⟩
    try go_wp2_with fail
    replace HST := Zz.mk (HST.out.below hbz)
    replace HDR := Zz.mk (HDR.out.below hbz)
    refine hK.out _ _ (cellK hHeld hbz) ?_
    clear hHeld hbz hK K
    intro hHeld
    try simp only [Act.put,pA,pB,pC,pD,pE,pF]
    apply tkJ 5
    refine wpAnyH_done (by kernel_rfl) ?_ _
    clear hHeld cn
    go_wp2_with fail
    go_roundw
    case rel => exact ⟨d + 1, by go_num, by omega, by omega, HDR, HST⟩
    case measure => simp [intOf]; omega
  · have hd : ¬ (d : Int) <= 17 := by omega
    go_wp2_with (first
     | (refine wpList_store_row rfl 34 (.tmp 4) (.tmp 74) rfl (w.heap.size + 1) #[.int .i64 0, .int .i64 0, .int .i64 0, .int .i64 0, .slice none 0 0, .int .u32 0, .int .u32 0, .int .u32 0, .int .u64 0, .int .u64 0, .int .i64 0, .slice none 0 0, .slice none 0 0] rfl rfl 34 _ HDR.out.rs actC_info2 rfl (by simp [Value.oneCell']) ?_)
     | fail)
    refine bodyPost_ret (v := .tuple #[.agg #[.int .i64 0, .int .i64 0, .int .i64 0, .int .i64 0, .slice none 0 0, .int .u32 0, .int .u32 0, .int .u32 0, .int .u64 0, .int .u64 0, .int .i64 0, .slice none 0 0, .slice none 0 0], .int .i64 270]) (ExtQ.results_cell2 Tryz.results14 _ _ _ (w.heap.size + 1) rfl _ (.int .i64 270) (run_loadVar_row _ (w.heap.size + 1) 34 34 _ (0, 0) _ (setRow_heap _ _ _ _ _ _ HDR.out.rs) Tryz.underlying34 rfl actC_info2) rfl) rfl ?_
    exact ⟨⟨_, rfl, K_zero _⟩, below_setRow HDR.out.hb (by omega) _⟩
theorem rrow_ok : ∀ n : Fin 18, (∀ c ∈ (rowOf ((n.val : Nat) : Int)).2.data.toList, c ∈ lets /\ c.toNat < 128) /\ (rowOf ((n.val : Nat) : Int)).2.data.toList.Nodup := by decide +kernel
theorem ActV.iter {b0 : Nat} {W : World} {x : Act} {u4 u11 u12 : Value} (h : ActV b0 W x u4 u11 u12) {k pos : Nat} {s : ByteArray} (hk : W.heap[k]? = some (.stringIter s pos)) (q : Nat) : ActV b0 (W.iterAt k s q) x u4 u11 u12 :=
 ⟨h.h4.step flat_lv (ExtQ.iterAt_grown W k s q) (fun k' e cells fr he => (by cases e; rw [hk] at he; cases he)), h.h11.step (flat_int _) (ExtQ.iterAt_grown W k s q) (fun k' e cells fr he => (by cases e; rw [hk] at he; cases he)), h.h12.step flat_bool (ExtQ.iterAt_grown W k s q) (fun k' e cells fr he => (by cases e; rw [hk] at he; cases he)), h.nl⟩
theorem ActV.zero (b0 : Nat) (W : World) (d : Int) : ActV b0 W { z34 with f0 := d } (.slice none 0 0) (.slice none 0 0) (.slice none 0 0) := ⟨Held.nil _ _ _ _, Held.nil _ _ _ _, Held.nil _ _ _ _, fun _ => rfl⟩
structure DS (p : Plan) (B2 : Option Addr) (d2 : Nat) (B3 : Option Addr) (d3 : Nat) (w W : World) (ab k : Nat) (hz : ByteArray) (pos : Nat) (x : Act) (u4 u11 u12 : Value) : Prop where
 dr : DR p B2 d2 B3 d3 w W
 ac : W.heap[ab]? = some (.cells #[.int .i64 x.f0, .int .i64 x.f1, .int .i64 x.f2, .int .i64 x.f3, u4, .int .u32 x.f5, .int .u32 x.f6, .int .u32 x.f7, .int .u64 x.f8.f0, .int .u64 x.f8.f1, .int .i64 x.f9, u11, u12] 34)
 it : W.heap[k]? = some (.stringIter hz pos)
 av : ActV w.heap.size W x u4 u11 u12
 l1 : w.heap.size + 1 < ab
 l2 : ab < k
theorem DS.iter {p : Plan} {B2 : Option Addr} {d2 : Nat} {B3 : Option Addr} {d3 : Nat} {w W : World} {ab k : Nat} {hz : ByteArray} {pos : Nat} {x : Act} {u4 u11 u12 : Value} (h : DS p B2 d2 B3 d3 w W ab k hz pos x u4 u11 u12) (q : Nat) : DS p B2 d2 B3 d3 w (W.iterAt k hz q) ab k hz q x u4 u11 u12 :=
 ⟨⟨ExtQ.row_step h.dr.pl (ExtQ.iterAt_grown W k hz q) (by have := h.l1; have := h.l2; omega), ExtQ.row_step h.dr.rs (ExtQ.iterAt_grown W k hz q) (by have := h.l1; have := h.l2; omega), Lib.below_iterAt h.dr.hb (by have := h.l1; have := h.l2; omega) hz q⟩, ExtQ.row_step h.ac (ExtQ.iterAt_grown W k hz q) (by have := h.l2; omega), Lib.iterAt_heap W k hz pos q h.it, h.av.iter h.it q, h.l1, h.l2⟩
theorem DS.stored {p : Plan} {B2 : Option Addr} {d2 : Nat} {B3 : Option Addr} {d3 : Nat} {w W : World} {ab k : Nat} {hz : ByteArray} {pos : Nat} {x y : Act} {u4 u11 u12 u4' u11' u12' : Value} {W' : World} (h : DS p B2 d2 B3 d3 w W ab k hz pos x u4 u11 u12) (hb : Below W.heap.size W W') (hv : ActV w.heap.size W' y u4' u11' u12') : DS p B2 d2 B3 d3 w (W'.setRow ab #[.int .i64 y.f0, .int .i64 y.f1, .int .i64 y.f2, .int .i64 y.f3, u4', .int .u32 y.f5, .int .u32 y.f6, .int .u32 y.f7, .int .u64 y.f8.f0, .int .u64 y.f8.f1, .int .i64 y.f9, u11', u12']) ab k hz pos y u4' u11' u12' :=
 ⟨⟨(setRow_other W' ab _ _ (by have := h.l1; omega)).trans (krow h.dr.pl hb), (setRow_other W' ab _ _ (by have := h.l1; omega)).trans (krow h.dr.rs hb), below_setRow (h.dr.hb.trans (hb.mono h.dr.hb.size)) (by have := h.l1; omega) _⟩, setRow_heap _ _ _ _ _ _ (krow h.ac hb), (setRow_other W' ab _ _ (by have := h.l2; omega)).trans (krow h.it hb), hv.setR (krow h.ac hb) _, h.l1, h.l2⟩
theorem str_setR {W W' : World} {A : Option Addr} {l : List ByteArray} {ab : Nat} {cs ds : Array Value} (h : ExtQ.StrAt W A l) (ha : W.heap[ab]? = some (.cells cs 34)) (hb : Below W.heap.size W W') : ExtQ.StrAt (W'.setRow ab ds) A l :=
 (h.below hb).step (setRow_grown _ _ _) (fun k' e cells fr he => (by cases e; rw [krow ha hb] at he; cases he))
theorem str_iter {W : World} {A : Option Addr} {l : List ByteArray} {k pos : Nat} {s : ByteArray} (h : ExtQ.StrAt W A l) (hk : W.heap[k]? = some (.stringIter s pos)) (q : Nat) : ExtQ.StrAt (W.iterAt k s q) A l :=
 h.step (ExtQ.iterAt_grown W k s q) (fun k' e cells fr he => (by cases e; rw [hk] at he; cases he))
theorem DS.act {p : Plan} {B2 : Option Addr} {d2 : Nat} {B3 : Option Addr} {d3 : Nat} {w W : World} {ab k : Nat} {hz : ByteArray} {pos : Nat} {x : Act} {u4 u11 u12 : Value} (h : DS p B2 d2 B3 d3 w W ab k hz pos x u4 u11 u12) : k34.K W x [.int .i64 x.f0, .int .i64 x.f1, .int .i64 x.f2, .int .i64 x.f3, u4, .int .u32 x.f5, .int .u32 x.f6, .int .u32 x.f7, .int .u64 x.f8.f0, .int .u64 x.f8.f1, .int .i64 x.f9, u11, u12] := held_K h.av.h4 h.av.h11 h.av.h12
theorem DS.actR {p : Plan} {B2 : Option Addr} {d2 : Nat} {B3 : Option Addr} {d3 : Nat} {w W : World} {ab k : Nat} {hz : ByteArray} {pos : Nat} {x : Act} {u4 u11 u12 : Value} (h : DS p B2 d2 B3 d3 w W ab k hz pos x u4 u11 u12) {W' : World} (hb : Below W.heap.size W W') (cs : Array Value) : k34.K (W'.setRow (w.heap.size + 1) cs) x [.int .i64 x.f0, .int .i64 x.f1, .int .i64 x.f2, .int .i64 x.f3, u4, .int .u32 x.f5, .int .u32 x.f6, .int .u32 x.f7, .int .u64 x.f8.f0, .int .u64 x.f8.f1, .int .i64 x.f9, u11, u12] :=
 have g := ((h.av.below hb).setR (krow h.dr.rs hb) cs)
 held_K g.h4 g.h11 g.h12
theorem words_tail3 (g i n c : Nat) (hc : n + 1 <= c) : ∀ W, (Instr.slice 22 (.slice (some ⟨g, i, none⟩) (n + 1) c) (some (.int .i64 1)) none none).run Tryz.prog W = .ok (.slice (some ⟨g, if c = 1 then i else i + 1, none⟩) n (c - 1)) W := by
 intro W
 rw [words_tail2 g i n c hc W]
 split <;> rfl
theorem words_left3 (W : World) (g i c : Nat) (q : ByteArray) (tl : List ByteArray) (hc : tl.length + 1 <= c) (h : ExtQ.StrAt W (some ⟨g, i, none⟩) (q :: tl)) : ExtQ.StrAt W (some ⟨g, if c = 1 then i else i + 1, none⟩) tl := by
 have := words_left2 W g i c q tl hc h
 split at this <;> rename_i h1
 · rw [if_pos h1]; exact this
 · rw [if_neg h1]; exact this
def lnE (p : Plan) (x : Act) : ByteArray × Int := if mayS p.f2.length x = true then (lineB p.f2 x, 0) else (⟨#[]⟩, 270)
theorem r_line_any (p : Plan) (x : Act) (cp cs : List Value) (w : World) (hP : k25.K w p cp) (hK : k34.K w x cs) (hp : PlanBd p) (hx : KT x) (hsm : ∀ i, (p.f2.getD i ByteArray.empty).size <= 1048576) (hh : headedS p.f0 p.f1 p.f2 = true) :
 Calls Tryz.prog 12 #[.agg cp.toArray, .agg cs.toArray] w (StrE (lnE p x).1 (lnE p x).2 w) := by
 have hs2 : ∀ i, (p.f2.getD i ByteArray.empty).size <= 1073741824 := fun i => Nat.le_trans (hsm i) (by omega)
 unfold lnE
 by_cases hm : mayS p.f2.length x = true
 · rw [if_pos hm]
   exact r_LineYes p x cp cs w hP hK hp hx.r.bd hs2 hh (by rw [<- may_eq]; exact hm) (say_may hsm hx.r hm)
 · rw [if_neg hm]
   exact r_LineNo p x cp cs w hP hK hp hx.r.bd hs2 (by rw [<- may_eq, hh]; simpa using hm)
theorem ract_go (p : Plan) (cp : List Value) (t : ByteArray) (w : World) (hP : k25.K w p cp) (hp : PlanBd p) (hs : t.size <= 40000) (hnm : ∀ i, (p.f2.getD i ByteArray.empty).size <= 1048576) (q : ByteArray) (tl : List ByteArray) (hw : ExtQ.wordsS t = some (q :: tl)) (hh : headedS p.f0 p.f1 p.f2 = true) (hr : 1 <= ExtQ.rowI q) (hpl : p.f2.length <= 1048576) :
 Calls Tryz.prog 14 #[.agg cp.toArray, .string t] w (ActP ((readsR p.f2 (rowOf (ExtQ.rowI q)).2.data.toList tl { z34 with f0 := ExtQ.rowI q }).bind fun x => if mayS p.f2.length x = true /\ lineB p.f2 x = t then some x else none) w) := by
 have hsm : ∀ i, (p.f2.getD i ByteArray.empty).size <= 1073741824 := fun i => Nat.le_trans (hnm i) (by omega)
 have cw := fun W => r_Words t W hs
 rw [hw] at cw
 simp only [Option.isSome_none, Option.isSome_some, Option.getD_none, Option.getD_some] at cw
 replace cw := Lib.hid cw
 have ch := fun W (hW : Below w.heap.size w W) => r_head p cp W (k25.K_below hW hP) hp hsm
 rw [hh] at ch
 replace ch := Lib.hid ch
 have cname := Lib.hid (fun d W => r_RName d W)
 have hws := words_small hw
 have htl : tl.length <= 40000 := by have := hws.2.1; rw [List.length_cons] at this; omega
 have HZL := Zz.mk (show ∀ s ∈ tl, s.size <= 134217728 from fun s h => Nat.le_trans (hws.2.2 s (List.mem_cons_of_mem _ h)) (by omega))
 have cR := Lib.hid (fun W (hW : Below w.heap.size w W) x u4 u11 u12 b i s0 l c (hV : ActV w.heap.size W x u4 u11 u12) (hst : ExtQ.StrAt W (some ⟨b, i, none⟩) (s0 :: l)) (hc : l.length + 1 <= c) (hl : l.length <= 1073741824) (hz : ∀ s ∈ s0 :: l, s.size <= 134217728) (ch : UInt8) (hch : ch ∈ lets) (hpk : ch = 112 -> x.f11 = []) => read_any p cp x u4 u11 u12 b i s0 l c w.heap.size W (k25.K_below hW hP) hV hst hc hl hW.size (hz s0 List.mem_cons_self) (fun s h => hz s (List.mem_cons_of_mem _ h)) hpl hsm ch hch hpk)
 have cL := Lib.hid (fun W (hW : Below w.heap.size w W) (x : Act) (hx : KT x) cs (hK : k34.K W x cs) => r_line_any p x cp cs W (k25.K_below hW hP) hK hp hx hnm hh)
 obtain ⟨X, hX⟩ : ∃ X, readsR p.f2 (rowOf (ExtQ.rowI q)).2.data.toList tl { z34 with f0 := ExtQ.rowI q } = X := ⟨_, rfl⟩
 have HKT := Zz.mk (show ∀ y, X = some y -> KT y from fun y e => readsR_kt _ _ _ _ (zero_kt _) (hX.trans e))
 rw [hX]
 obtain ⟨r, hr0⟩ : ∃ r, (X.bind fun x => if mayS p.f2.length x = true /\ lineB p.f2 x = t then some x else none) = r := ⟨_, rfl⟩
 have HR := Zz.mk hr0
 rw [hr0]
 clear hr0
 have hD17 := rowI_le q
 obtain ⟨D, hD⟩ := Int.eq_ofNat_of_zero_le (show 0 <= ExtQ.rowI q by omega)
 have HNE := Zz.mk (fun (d : Nat) (h1 : 1 <= d) (h2 : d < D) => row_ne (q := q) h1 (by omega) (by omega))
 have HEQ := Zz.mk (rowI_spec hr)
 have hok := rrow_ok ⟨D, by omega⟩
 simp only at hok
 rw [hD] at hX HEQ
 have hr1 : 1 <= D := by omega
 have hr17 : D <= 17 := by omega
 have CH2 := Zz.mk hok
 have HX0 := Zz.mk hX
 clear hp hs hw hsm hnm hh hr hws hD hD17 hok hX
 have P0 := Zz.mk ((Bx.new w cp 25).push (.cells #[.int .i64 0, .int .i64 0, .int .i64 0, .int .i64 0, .slice none 0 0, .int .u32 0, .int .u32 0, .int .u32 0, .int .u64 0, .int .u64 0, .int .i64 0, .slice none 0 0, .slice none 0 0] 34))
 have S0 := Zz.mk ((Bx.new w cp 25).on [.int .i64 0, .int .i64 0, .int .i64 0, .int .i64 0, .slice none 0 0, .int .u32 0, .int .u32 0, .int .u32 0, .int .u64 0, .int .u64 0, .int .i64 0, .slice none 0 0, .slice none 0 0] 34 |>.at_ (show _ = w.heap.size + 1 by simp))
 obtain ⟨B2, d2, B3, d3, rfl, m2, e2, m3, e3⟩ := k25_open hP
 clear hP m2 e2 m3 e3
 go_enter Tryz.func14, Tryz.ntmps14
 go_wp2_with (first
  | (go_at_call 39
     with_reducible refine (cw.out _).mono ?_
     rintro e v1 ⟨⟨u, rfl, hR⟩, hb⟩
     have HDR := Zz.mk (⟨krow P0.out.row hb, krow S0.out.row hb, P0.out.hb.trans (hb.mono P0.out.hb.size)⟩ : DR p B2 d2 B3 d3 w v1)
     obtain ⟨g, kc, rfl, hcw, hst1⟩ := ExtQ.str_row hR (by simp)
     rw [List.length_cons] at hcw
     have HST := Zz.mk hst1
     clear hR hst1
     obtain ⟨r0, r1, r2, r3⟩ := cls4 HDR.out.pl
     clear hb)
  | (go_at_call 27
     with_reducible refine (ch.out _ HDR.out.hb).mono ?_
     rintro e v2 ⟨rfl, hb⟩
     replace HST := Zz.mk (HST.out.below hb)
     replace HDR := Zz.mk (HDR.out.below hb)
     clear hb)
  | fail)
 clear r0 r1 r2 r3
 go_loopw [8] (fun v8 wr => ∃ d : Nat, v8 = .int .i64 d /\ 1 <= d /\ d <= D /\ Zz (DR p B2 d2 B3 d3 w wr) /\ Zz (ExtQ.StrAt wr (some ⟨g, 0, none⟩) (q :: tl))) (fun v8 _ => 18 - (intOf v8).toNat)
 case atStart => exact ⟨1, rfl, by omega, by omega, HDR, HST⟩
 case round =>
  clear HDR HST
  obtain ⟨d, rfl, h1, hdD, HDR, HST⟩ := hrel
  have hd : (d : Int) <= 17 := by omega
  by_cases hlt : d < D
  · have hne := HNE.out d h1 hlt
    have tne := str_ne hne
    have cn := Lib.hid (cname.out (d : Int))
    generalize (rowOf (d : Int)).1 = nm at *
    clear hne
    have hD : Below wr.heap.size wr wr.drew := Below.drew (Below.refl _ _)
    have k0 := cellK HST.out.head hD
    replace HST := Zz.mk (HST.out.below hD)
    replace HDR := Zz.mk (HDR.out.below hD)
    clear hD
    go_upto_region 7 with fail
    refine wp_region_held_drew (S := fun W => W.cell? ⟨g, 0, none⟩ = some (.string q)) (by kernel_rfl) (k0) (fun hHeld => ?_)
    clear k0
    apply tkJ 0
    apply tkJ 2
    apply tkJ 3
    apply tkJ 4
    refine wpAnyH_ready (rs := [1]) (by kernel_rfl) (by simp) ?_
    refine AllReadyH.cons rfl (fun K hK => ?_) AllReadyH.nil
    go_simp
    go_at_call 29
    with_reducible refine (cn.out _).mono ?_
    rintro e u1 ⟨rfl, hbz⟩
    try go_wp2_with fail
    replace HST := Zz.mk (HST.out.below hbz)
    replace HDR := Zz.mk (HDR.out.below hbz)
    refine hK.out _ _ (cellK hHeld hbz) ?_
    clear hHeld hbz hK K
    intro hHeld
    try simp only [Act.put,pA,pB,pC,pD,pE,pF]
    apply tkJ 5
    refine wpAnyH_done (by kernel_rfl) ?_ _
    clear hHeld cn
    go_wp2_with fail
    go_roundw
    case rel => exact ⟨d + 1, by go_num, by omega, by omega, HDR, HST⟩
    case measure => simp [intOf]; omega
  · obtain rfl : d = D := by omega
    have teq : ((rowOf (d : Int)).1.toList == q.toList) = true := by rw [HEQ.out]; exact beq_self_eq_true _
    have cn := Lib.hid (cname.out (d : Int))
    have chas := Lib.hid (fun W => r_Has (d : Int) W)
    generalize (rowOf (d : Int)).1 = nm at *
    obtain rfl := HEQ.out.symm
    generalize (rowOf (d : Int)).2 = hz at *
    clear cname HNE HEQ
    have hD : Below wr.heap.size wr wr.drew := Below.drew (Below.refl _ _)
    have k0 := cellK HST.out.head hD
    replace HST := Zz.mk (HST.out.below hD)
    replace HDR := Zz.mk (HDR.out.below hD)
    clear hD
    go_upto_region 7 with fail
    refine wp_region_held_drew (S := fun W => W.cell? ⟨g, 0, none⟩ = some (.string q)) (by kernel_rfl) (k0) (fun hHeld => ?_)
    clear k0
    apply tkJ 0
    apply tkJ 2
    apply tkJ 3
    apply tkJ 4
    refine wpAnyH_ready (rs := [1]) (by kernel_rfl) (by simp) ?_
    refine AllReadyH.cons rfl (fun K hK => ?_) AllReadyH.nil
    go_simp
    go_at_call 29
    with_reducible refine (cn.out _).mono ?_
    rintro e u1 ⟨rfl, hbz⟩
    try go_wp2_with fail
    replace HST := Zz.mk (HST.out.below hbz)
    replace HDR := Zz.mk (HDR.out.below hbz)
    refine hK.out _ _ (cellK hHeld hbz) ?_
    clear hHeld hbz hK K
    intro hHeld
    try simp only [Act.put,pA,pB,pC,pD,pE,pF]
    apply tkJ 5
    refine wpAnyH_done (by kernel_rfl) ?_ _
    clear hHeld cn
    have hgl := HDR.out.lt
    have wt := words_tail3 g 0 tl.length kc hcw
    have HST2 := Zz.mk (words_left3 _ g 0 kc _ tl hcw HST.out)
    obtain ⟨j0, hj⟩ : ∃ j0, (if kc = 1 then 0 else 0 + 1) = j0 := ⟨_, rfl⟩
    rw [hj] at wt HST2
    clear hj HST
    have HDR3 := Zz.mk (HDR.out.below (ExtQ.cellsBelow u1 (.cells #[.int .i64 d, .int .i64 0, .int .i64 0, .int .i64 0, .slice none 0 0, .int .u32 0, .int .u32 0, .int .u32 0, .int .u64 0, .int .u64 0, .int .i64 0, .slice none 0 0, .slice none 0 0] 34)))
    have HAC3 := Zz.mk (heap_alloc_new u1 (.cells #[.int .i64 d, .int .i64 0, .int .i64 0, .int .i64 0, .slice none 0 0, .int .u32 0, .int .u32 0, .int .u32 0, .int .u64 0, .int .u64 0, .int .i64 0, .slice none 0 0, .slice none 0 0] 34))
    have HST3 := Zz.mk (HST2.out.below (ExtQ.cellsBelow u1 (.cells #[.int .i64 d, .int .i64 0, .int .i64 0, .int .i64 0, .slice none 0 0, .int .u32 0, .int .u32 0, .int .u32 0, .int .u64 0, .int .u64 0, .int .i64 0, .slice none 0 0, .slice none 0 0] 34)))
    clear HST2
    go_wp2_with (first
     | (go_at_call 30
        with_reducible refine (chas.out _).mono ?_
        rintro e v6 ⟨rfl, hb⟩
        have HAC6 := Zz.mk (krow HAC3.out hb)
        have HDR6 := Zz.mk (HDR3.out.below hb)
        have HST6 := Zz.mk ((HST3.out.below hb).below (below_iter0 v6 hz))
        clear hb HAC3 HDR3 HST3 HDR chas wt)
     | fail)
    have hl6 : u1.heap.size < v6.heap.size := (Array.getElem?_eq_some_iff.1 HAC6.out).1
    have HDS0 := Zz.mk (⟨HDR6.out.below (below_iter0 v6 hz), krow HAC6.out (below_iter0 v6 hz), iter_new v6 hz, ActV.zero _ _ _, hgl, hl6⟩ : DS p B2 d2 B3 d3 w (v6.iter hz 0) u1.heap.size v6.heap.size hz 0 { z34 with f0 := (d : Int) } (.slice none 0 0) (.slice none 0 0) (.slice none 0 0))
    clear HAC6 HDR6 hl6
    go_loopw [10, 12] (fun v10 v12 wr => ∃ (pos N : Nat) (x : Act) (l : List ByteArray) (b i c : Nat) (u4 u11 u12 : Value), pos <= hz.size /\ v10 = .slice (some ⟨b, i, none⟩) N c /\ N = l.length /\ N <= c /\ N <= 1073741824 /\ Zz (∀ s ∈ l, s.size <= 134217728) /\ Zz (readsR p.f2 (hz.data.toList.drop pos) l x = X) /\ Zz (112 ∈ hz.data.toList.drop pos -> x.f11 = []) /\ Zz (ExtQ.StrAt wr (some ⟨b, i, none⟩) l) /\ Zz (DS p B2 d2 B3 d3 w wr u1.heap.size v6.heap.size hz pos x u4 u11 u12)) (fun _ _ wr => hz.size - wr.iterPos v6.heap.size)
    case atStart => exact ⟨0, tl.length, _, tl, g, j0, kc - 1, _, _, _, by omega, rfl, rfl, by omega, by omega, HZL, ⟨HX0.out⟩, ⟨fun _ => rfl⟩, HST6, HDS0⟩
    case round =>
     clear HDS0 HST6 HX0 HZL
     obtain ⟨pos, N, x, l, b, i, c, u4, u11, u12, hpl, rfl, hN, hNc, hNm, HZS, HQ, HPK, HST, HDS⟩ := hrel
     by_cases hp : pos < hz.size
     · have hmem : hz[pos] ∈ hz.data.toList := by rw [List.mem_iff_getElem]; exact ⟨pos, by rw [Array.length_toList]; exact hp, rfl⟩
       have hcl := CH2.out.1 _ hmem
       have hnx := fun ty => Lib.run_next_ascii_at (P := Tryz.prog) wr v6.heap.size hz pos ty HDS.out.it hp hcl.2
       have HQ1 := HQ.out
       have HP1 := HPK.out
       have hnd := List.Nodup.sublist (List.drop_sublist pos _) CH2.out.2
       rw [row_drop hz pos hp] at HQ1 HP1 hnd
       have hni := (List.nodup_cons.1 hnd).1
       have HMM : Zz (hz.size - (pos + 1) < hz.size - wr.iterPos v6.heap.size) := ⟨by rw [iterPos_of HDS.out.it]; omega⟩
       replace HST := Zz.mk (str_iter HST.out HDS.out.it (pos + 1))
       replace HDS := Zz.mk (HDS.out.iter (pos + 1))
       have hcl1 := hcl.1
       clear HQ HPK hnd hmem hcl
       generalize hz[pos] = ch at *
       obtain ⟨cs, hcs⟩ : ∃ cs, hz.data.toList.drop (pos + 1) = cs := ⟨_, rfl⟩
       rw [hcs] at HQ1 HP1 hni
       have hqd := Zz.mk hcs
       clear hcs
       generalize wr.iterAt v6.heap.size hz (pos + 1) = wi at *
       cases l with
       | nil =>
         obtain rfl : N = 0 := hN
         obtain rfl : X = none := by rw [<- HQ1]; unfold readsR; rfl
         obtain rfl : r = none := HR.out.symm
         have HR9 := Zz.mk HDS.out.dr.rs
         have HB9 := Zz.mk HDS.out.dr.hb
         clear HQ1 HP1 hni cR cL HKT CH2
         go_wp2_with (first
          | (refine wpList_store_row rfl 34 (.tmp 4) (.tmp 51) rfl (w.heap.size + 1) #[.int .i64 0, .int .i64 0, .int .i64 0, .int .i64 0, .slice none 0 0, .int .u32 0, .int .u32 0, .int .u32 0, .int .u64 0, .int .u64 0, .int .i64 0, .slice none 0 0, .slice none 0 0] rfl rfl 34 _ HR9.out actC_info2 rfl (by first | simp [Value.oneCell']) ?_)
          | fail)
         refine bodyPost_ret (v := .tuple #[.agg #[.int .i64 0, .int .i64 0, .int .i64 0, .int .i64 0, .slice none 0 0, .int .u32 0, .int .u32 0, .int .u32 0, .int .u64 0, .int .u64 0, .int .i64 0, .slice none 0 0, .slice none 0 0], .int .i64 270]) (ExtQ.results_cell2 Tryz.results14 _ _ _ (w.heap.size + 1) rfl _ (.int .i64 270) (run_loadVar_row _ (w.heap.size + 1) 34 34 _ (0, 0) _ (setRow_heap _ _ _ _ _ _ HR9.out) Tryz.underlying34 rfl actC_info2) rfl) rfl ?_
         exact ⟨⟨_, rfl, K_zero _⟩, below_setRow HB9.out (by omega) _⟩
       | cons s0 l =>
         obtain rfl : N = l.length + 1 := hN
         rw [rs_cons] at HQ1
         have HP2 : 112 ∈ cs -> (readR p.f2 ((ch.toNat : Nat) : Int) s0 l x).f11 = [] := fun h => (by
          rw [readR_f11 _ _ _ _ _ (List.mem_map_of_mem hcl1) (fun e => hni (by
           have e2 : ch = 112 := by
            have e3 : ch.toNat = 112 := by omega
            exact UInt8.toNat_inj.1 e3
           rw [e2]; exact h))]
          exact HP1 (List.mem_cons_of_mem _ h))
         have cr := Lib.hid (cR.out wi HDS.out.dr.hb x u4 u11 u12 b i s0 l c HDS.out.av HST.out hNc (by omega) HZS.out ch hcl1 (fun e => HP1 (by rw [e]; exact List.mem_cons_self)))
         have HZ2 := Zz.mk (fun s h => HZS.out s (List.mem_cons_of_mem _ h))
         have wt := words_tail3 b i l.length c hNc
         have HST1 := Zz.mk (words_left3 _ b i c _ l hNc HST.out)
         obtain ⟨j, hj⟩ : ∃ j, (if c = 1 then i else i + 1) = j := ⟨_, rfl⟩
         rw [hj] at wt HST1
         generalize readR p.f2 ((ch.toNat : Nat) : Int) s0 l x = y at *
         have HQ2 := Zz.mk HQ1
         have HP3 := Zz.mk HP2
         rw [<- hqd.out] at HQ2 HP3
         clear hj HQ1 HP1 HP2 hni HZS HST hqd hcl1
         obtain ⟨q0, q1, q2, q3, q4, q5, q6, q7, q8, q9, q10, q11, q12⟩ := cls13 HDS.out.ac
         obtain ⟨r0, r1, r2, r3⟩ := cls4 HDS.out.dr.pl
         have hne0 : ¬ ((l.length : Int) + 1 = 0) := by omega
         have hnb0 : (((l.length : Int) + 1) == 0) = false := beq_eq_false_iff_ne.2 hne0
         go_wp2_with (first
          | (go_at_call 40
             with_reducible refine cr.out.mono ?_
             rintro e v7 ⟨u4', u11', u12', rfl, hv, hb⟩
             have HAC7 := Zz.mk (krow HDS.out.ac hb)
             have HDS7 := Zz.mk (HDS.out.stored hb hv)
             have HST7 := Zz.mk (str_setR (ds := #[.int .i64 y.f0, .int .i64 y.f1, .int .i64 y.f2, .int .i64 y.f3, u4', .int .u32 y.f5, .int .u32 y.f6, .int .u32 y.f7, .int .u64 y.f8.f0, .int .u64 y.f8.f1, .int .i64 y.f9, u11', u12']) HST1.out HDS.out.ac hb)
             have HON := Zz.mk hv.ones
             clear hb hv cr HST1)
          | (refine wpList_store_row rfl 34 (.tmp 9) (.tmp 56) rfl u1.heap.size #[.int .i64 y.f0, .int .i64 y.f1, .int .i64 y.f2, .int .i64 y.f3, u4', .int .u32 y.f5, .int .u32 y.f6, .int .u32 y.f7, .int .u64 y.f8.f0, .int .u64 y.f8.f1, .int .i64 y.f9, u11', u12'] rfl rfl 34 _ HAC7.out actC_info2 rfl (cells_one y _ _ _ HON.out) ?_)
          | fail)
         go_roundw
         case rel => exact ⟨pos + 1, l.length, y, l, b, j, c - 1, u4', u11', u12', by omega, rfl, rfl, by omega, by omega, HZ2, HQ2, HP3, HST7, HDS7⟩
         case measure => rw [iterPos_of HDS7.out.it]; exact HMM.out
     · have hnx := fun ty => Lib.run_next_end_at (P := Tryz.prog) wr v6.heap.size hz pos ty HDS.out.it hp
       obtain rfl : X = some x := by
        have := HQ.out
        rw [List.drop_of_length_le (by rw [Array.length_toList]; show hz.size <= pos; omega), rs_nil] at this
        exact this.symm
       have cl := cL.out wr HDS.out.dr.hb x (HKT.out x rfl) _ HDS.out.act
       clear HQ HPK HST HZS cR cL HKT CH2
       obtain ⟨q0, q1, q2, q3, q4, q5, q6, q7, q8, q9, q10, q11, q12⟩ := cls13 HDS.out.ac
       obtain ⟨r0, r1, r2, r3⟩ := cls4 HDS.out.dr.pl
       by_cases hm : mayS p.f2.length x = true
       · have hln : lnE p x = (lineB p.f2 x, 0) := by unfold lnE; rw [if_pos hm]
         rw [hln] at cl
         replace cl := Lib.hid cl
         by_cases hlt : lineB p.f2 x = t
         · obtain rfl : r = some x := by rw [<- HR.out]; simp only [Option.bind_some]; rw [if_pos ⟨hm, hlt⟩]
           clear HR hln hm
           generalize lineB p.f2 x = Ln at *
           obtain rfl := hlt
           go_wp2_with (first
            | (go_at_call 12
               with_reducible refine cl.out.mono ?_
               rintro e v9 ⟨rfl, hb⟩
               have HW9 := Zz.mk hb
               have HR9 := Zz.mk (krow HDS.out.dr.rs hb)
               have HB9 := Zz.mk (HDS.out.dr.hb.trans (hb.mono HDS.out.dr.hb.size))
               have HA9 := Zz.mk (krow HDS.out.ac hb)
               clear hb cl
               obtain ⟨q0, q1, q2, q3⟩ := cls4 HA9.out
               have q4 := blk_cell HA9.out 4
               have q5 := blk_cell HA9.out 5
               have q6 := blk_cell HA9.out 6
               have q7 := blk_cell HA9.out 7
               have q8 := blk_cell HA9.out 8
               have q9 := blk_cell HA9.out 9
               have q10 := blk_cell HA9.out 10
               have q11 := blk_cell HA9.out 11
               have q12 := blk_cell HA9.out 12)
            | (refine wpList_store_row rfl 34 (.tmp 4) (.tmp 73) rfl (w.heap.size + 1) #[.int .i64 x.f0, .int .i64 x.f1, .int .i64 x.f2, .int .i64 x.f3, u4, .int .u32 x.f5, .int .u32 x.f6, .int .u32 x.f7, .int .u64 x.f8.f0, .int .u64 x.f8.f1, .int .i64 x.f9, u11, u12] rfl rfl 34 _ HR9.out actC_info2 rfl (by first | exact cells_one _ _ _ _ HDS.out.av.ones | simp [Value.oneCell']) ?_)
            | fail)
           refine bodyPost_ret (v := .tuple #[.agg #[.int .i64 x.f0, .int .i64 x.f1, .int .i64 x.f2, .int .i64 x.f3, u4, .int .u32 x.f5, .int .u32 x.f6, .int .u32 x.f7, .int .u64 x.f8.f0, .int .u64 x.f8.f1, .int .i64 x.f9, u11, u12], .int .i64 0]) (ExtQ.results_cell2 Tryz.results14 _ _ _ (w.heap.size + 1) rfl _ (.int .i64 0) (run_loadVar_row _ (w.heap.size + 1) 34 34 _ (0, 0) _ (setRow_heap _ _ _ _ _ _ HR9.out) Tryz.underlying34 rfl actC_info2) rfl) rfl ?_
           exact ⟨⟨_, rfl, HDS.out.actR HW9.out _⟩, below_setRow HB9.out (by omega) _⟩
         · obtain rfl : r = none := by rw [<- HR.out]; simp only [Option.bind_some]; rw [if_neg (fun h => hlt h.2)]
           clear HR hln hm
           generalize lineB p.f2 x = Ln at *
           have hl2 := str_ne hlt
           go_wp2_with (first
            | (go_at_call 12
               with_reducible refine cl.out.mono ?_
               rintro e v9 ⟨rfl, hb⟩
               have HW9 := Zz.mk hb
               have HR9 := Zz.mk (krow HDS.out.dr.rs hb)
               have HB9 := Zz.mk (HDS.out.dr.hb.trans (hb.mono HDS.out.dr.hb.size))
               have HA9 := Zz.mk (krow HDS.out.ac hb)
               clear hb cl
               obtain ⟨q0, q1, q2, q3⟩ := cls4 HA9.out
               have q4 := blk_cell HA9.out 4
               have q5 := blk_cell HA9.out 5
               have q6 := blk_cell HA9.out 6
               have q7 := blk_cell HA9.out 7
               have q8 := blk_cell HA9.out 8
               have q9 := blk_cell HA9.out 9
               have q10 := blk_cell HA9.out 10
               have q11 := blk_cell HA9.out 11
               have q12 := blk_cell HA9.out 12)
            | (refine wpList_store_row rfl 34 (.tmp 4) (.tmp 72) rfl (w.heap.size + 1) #[.int .i64 0, .int .i64 0, .int .i64 0, .int .i64 0, .slice none 0 0, .int .u32 0, .int .u32 0, .int .u32 0, .int .u64 0, .int .u64 0, .int .i64 0, .slice none 0 0, .slice none 0 0] rfl rfl 34 _ HR9.out actC_info2 rfl (by first | exact cells_one _ _ _ _ HDS.out.av.ones | simp [Value.oneCell']) ?_)
            | fail)
           refine bodyPost_ret (v := .tuple #[.agg #[.int .i64 0, .int .i64 0, .int .i64 0, .int .i64 0, .slice none 0 0, .int .u32 0, .int .u32 0, .int .u32 0, .int .u64 0, .int .u64 0, .int .i64 0, .slice none 0 0, .slice none 0 0], .int .i64 270]) (ExtQ.results_cell2 Tryz.results14 _ _ _ (w.heap.size + 1) rfl _ (.int .i64 270) (run_loadVar_row _ (w.heap.size + 1) 34 34 _ (0, 0) _ (setRow_heap _ _ _ _ _ _ HR9.out) Tryz.underlying34 rfl actC_info2) rfl) rfl ?_
           exact ⟨⟨_, rfl, K_zero _⟩, below_setRow HB9.out (by omega) _⟩
       · have hln : lnE p x = (⟨#[]⟩, 270) := by unfold lnE; rw [if_neg hm]
         rw [hln] at cl
         replace cl := Lib.hid cl
         obtain rfl : r = none := by rw [<- HR.out]; simp only [Option.bind_some]; rw [if_neg (fun h => hm h.1)]
         clear HR hln hm
         go_wp2_with (first
          | (go_at_call 12
             with_reducible refine cl.out.mono ?_
             rintro e v9 ⟨rfl, hb⟩
             have HW9 := Zz.mk hb
             have HR9 := Zz.mk (krow HDS.out.dr.rs hb)
             have HB9 := Zz.mk (HDS.out.dr.hb.trans (hb.mono HDS.out.dr.hb.size))
             have HA9 := Zz.mk (krow HDS.out.ac hb)
             clear hb cl
             obtain ⟨q0, q1, q2, q3⟩ := cls4 HA9.out
             have q4 := blk_cell HA9.out 4
             have q5 := blk_cell HA9.out 5
             have q6 := blk_cell HA9.out 6
             have q7 := blk_cell HA9.out 7
             have q8 := blk_cell HA9.out 8
             have q9 := blk_cell HA9.out 9
             have q10 := blk_cell HA9.out 10
             have q11 := blk_cell HA9.out 11
             have q12 := blk_cell HA9.out 12)
          | (refine wpList_store_row rfl 34 (.tmp 4) (.tmp 72) rfl (w.heap.size + 1) #[.int .i64 0, .int .i64 0, .int .i64 0, .int .i64 0, .slice none 0 0, .int .u32 0, .int .u32 0, .int .u32 0, .int .u64 0, .int .u64 0, .int .i64 0, .slice none 0 0, .slice none 0 0] rfl rfl 34 _ HR9.out actC_info2 rfl (by first | exact cells_one _ _ _ _ HDS.out.av.ones | simp [Value.oneCell']) ?_)
          | fail)
         refine bodyPost_ret (v := .tuple #[.agg #[.int .i64 0, .int .i64 0, .int .i64 0, .int .i64 0, .slice none 0 0, .int .u32 0, .int .u32 0, .int .u32 0, .int .u64 0, .int .u64 0, .int .i64 0, .slice none 0 0, .slice none 0 0], .int .i64 270]) (ExtQ.results_cell2 Tryz.results14 _ _ _ (w.heap.size + 1) rfl _ (.int .i64 270) (run_loadVar_row _ (w.heap.size + 1) 34 34 _ (0, 0) _ (setRow_heap _ _ _ _ _ _ HR9.out) Tryz.underlying34 rfl actC_info2) rfl) rfl ?_
         exact ⟨⟨_, rfl, K_zero _⟩, below_setRow HB9.out (by omega) _⟩
theorem r_Act (p : Plan) (cp : List Value) (t : ByteArray) (w : World) (hP : k25.K w p cp) (hp : PlanBd p) (hs : t.size <= 40000) (hnm : ∀ i, (p.f2.getD i ByteArray.empty).size <= 1048576) (hpl : p.f2.length <= 1048576) :
 Calls Tryz.prog 14 #[.agg cp.toArray, .string t] w (ActP (actR p t) w) := by
 have hsm : ∀ i, (p.f2.getD i ByteArray.empty).size <= 1073741824 := fun i => Nat.le_trans (hnm i) (by omega)
 unfold actR
 cases hw : ExtQ.wordsS t with
 | none => exact ract_nw p cp t w hP hp hs hsm hw
 | some ws =>
   simp only
   cases hh : headedS p.f0 p.f1 p.f2 with
   | false =>
     rw [if_neg (fun h => (by cases h.1))]
     exact ract_nh p cp t w hP hp hs hsm ws hw hh
   | true =>
     cases ws with
     | nil => exact absurd rfl (words_small hw).1
     | cons q tl =>
       simp only [List.headD_cons, List.tail_cons]
       by_cases hr : ExtQ.rowI q < 1
       · rw [if_neg (fun h => (by have := h.2; omega))]
         exact ract_norow p cp t w hP hp hs hsm q tl hw hh hr
       · rw [if_pos ⟨trivial, by omega⟩]
         have key := ract_go p cp t w hP hp hs hnm q tl hw hh (by omega) hpl
         revert key
         cases readsR p.f2 (rowOf (ExtQ.rowI q)).2.data.toList tl { z34 with f0 := ExtQ.rowI q } with
         | none => exact id
         | some x => exact id
theorem r_line2 (p : Plan) (x : Act) (cp cs : List Value) (w : World) (hP : k25.K w p cp) (hK : k34.K w x cs) (hp : PlanBd p) (hx : ActBd x) (hsm : ∀ i, (p.f2.getD i ByteArray.empty).size <= 1073741824) (h : mayS p.f2.length x = true -> SayOk p.f2 x) :
 Calls Tryz.prog 12 #[.agg cp.toArray, .agg cs.toArray] w (StrE (lineE p x).1 (lineE p x).2 w) := by
 unfold lineE
 by_cases hm : headedS p.f0 p.f1 p.f2 = true /\ mayS p.f2.length x = true
 · rw [if_pos hm]
   exact r_LineYes p x cp cs w hP hK hp hx hsm hm.1 (by rw [<- may_eq]; exact hm.2) (h hm.2)
 · rw [if_neg hm]
   exact r_LineNo p x cp cs w hP hK hp hx hsm (by rw [<- may_eq]; simpa using hm)
theorem data_zero : DataBd z34 := ⟨fun x h => (by cases h), by show 0 <= _; omega⟩
theorem act_data {p : Plan} {t : ByteArray} : DataBd ((actS p t).getD z34) := by
 cases h : actS p t with
 | none => exact data_zero
 | some x =>
   rw [Option.getD_some]
   unfold actS at h
   split at h
   · cases h
   · rename_i ws hw
     split at h
     · rename_i hc
       cases h
       have hm := hc.2.2.1
       refine ⟨(readS_ok p.f2 ws).by_, ?_⟩
       rw [may_eq] at hm
       unfold mayR b4R at hm
       simp only [Bool.and_eq_true] at hm
       have hd := hm.2.1
       unfold dataR at hd
       split at hd
       · simp only [Bool.and_eq_true, decide_eq_true_eq] at hd; omega
       · split at hd
         · simp only [decide_eq_true_eq] at hd; omega
         · split at hd
           · simp only [Bool.and_eq_true, decide_eq_true_eq] at hd; omega
           · simp only [decide_eq_true_eq] at hd; omega
     · cases h
theorem lines_big (p : Plan) (a : Act) (t : ByteArray) (cp ca : List Value) (w : World) (hP : k25.K w p cp) (hA : k34.K w a ca) (hp : PlanOk p) (ha : ActOk a) (hT : Lib.Utf8Tabs 1 2 w) (h1 : bigS p = true) :
 Calls Tryz.prog 3 #[.agg cp.toArray, .agg ca.toArray, .string t] w (BoolB true w) := by
 have P0 := Zz.mk ((Bx.new w cp 25).push (.cells ca.toArray 34))
 have A0 := Zz.mk ((Bx.new w cp 25).on ca 34 |>.at_ (show _ = w.heap.size + 1 by simp))
 have cL := Lib.hid (fun W (hW : Below w.heap.size w W) => live_walk W (Utf8Tabs_below hT hW))
 have cB := Lib.hid (fun W (hW : Below w.heap.size w W) => c_big p cp W (k25.K_below hW hP))
 rw [h1] at cB
 obtain ⟨A4, c4, A11, c11, A12, c12, rfl, -, -, -, -, -, -⟩ := k34_open hA
 obtain ⟨B2, d2, B3, d3, rfl, -, -, -, -⟩ := k25_open hP
 clear hP hA hT hp ha h1
 obtain ⟨r0, r1, r2, r3⟩ := cxs4 P0.out
 obtain ⟨q0, q1, q2, q3, q4, q5, q6, q7, q8, q9, q10, q11, q12⟩ := cxs13 A0.out
 go_enter Tryz.func3, Tryz.ntmps3
 go_wp2_with fail
 refine (cL.out _ P0.out.hb).mono ?_
 rintro e v ⟨rfl, hbz⟩
 replace P0 := Zz.mk (P0.out.next hbz)
 replace A0 := Zz.mk (A0.out.next hbz)
 clear hbz r0 r1 r2 r3 q0 q1 q2 q3 q4 q5 q6 q7 q8 q9 q10 q11 q12
 obtain ⟨r0, r1, r2, r3⟩ := cxs4 P0.out
 obtain ⟨q0, q1, q2, q3, q4, q5, q6, q7, q8, q9, q10, q11, q12⟩ := cxs13 A0.out
 go_wp2_with fail
 refine (cB.out _ P0.out.hb).mono ?_
 rintro e v ⟨rfl, hbz⟩
 replace P0 := Zz.mk (P0.out.next hbz)
 replace A0 := Zz.mk (A0.out.next hbz)
 clear hbz r0 r1 r2 r3 q0 q1 q2 q3 q4 q5 q6 q7 q8 q9 q10 q11 q12
 obtain ⟨r0, r1, r2, r3⟩ := cxs4 P0.out
 obtain ⟨q0, q1, q2, q3, q4, q5, q6, q7, q8, q9, q10, q11, q12⟩ := cxs13 A0.out
 clear cB
 go_wp2_with fail
 refine (cL.out _ P0.out.hb).mono ?_
 rintro e v ⟨rfl, hbz⟩
 replace P0 := Zz.mk (P0.out.next hbz)
 replace A0 := Zz.mk (A0.out.next hbz)
 clear hbz r0 r1 r2 r3 q0 q1 q2 q3 q4 q5 q6 q7 q8 q9 q10 q11 q12
 obtain ⟨r0, r1, r2, r3⟩ := cxs4 P0.out
 obtain ⟨q0, q1, q2, q3, q4, q5, q6, q7, q8, q9, q10, q11, q12⟩ := cxs13 A0.out
 clear cL
 go_wp2_with fail
 go_ret
 exact ⟨rfl, P0.out.hb⟩
theorem lines_ma (p : Plan) (a : Act) (t : ByteArray) (cp ca : List Value) (w : World) (hP : k25.K w p cp) (hA : k34.K w a ca) (hp : PlanOk p) (ha : ActOk a) (hT : Lib.Utf8Tabs 1 2 w) (h1 : bigS p = false) (h2 : muchS a = true) :
 Calls Tryz.prog 3 #[.agg cp.toArray, .agg ca.toArray, .string t] w (BoolB true w) := by
 have P0 := Zz.mk ((Bx.new w cp 25).push (.cells ca.toArray 34))
 have A0 := Zz.mk ((Bx.new w cp 25).on ca 34 |>.at_ (show _ = w.heap.size + 1 by simp))
 have cL := Lib.hid (fun W (hW : Below w.heap.size w W) => live_walk W (Utf8Tabs_below hT hW))
 have cB := Lib.hid (fun W (hW : Below w.heap.size w W) => c_big p cp W (k25.K_below hW hP))
 rw [h1] at cB
 have cM1 := Lib.hid (fun W (hW : Below w.heap.size w W) => c_much a ca W (k34.K_below hW hA))
 rw [h2] at cM1
 obtain ⟨A4, c4, A11, c11, A12, c12, rfl, -, -, -, -, -, -⟩ := k34_open hA
 obtain ⟨B2, d2, B3, d3, rfl, -, -, -, -⟩ := k25_open hP
 clear hP hA hT hp ha h1 h2
 obtain ⟨r0, r1, r2, r3⟩ := cxs4 P0.out
 obtain ⟨q0, q1, q2, q3, q4, q5, q6, q7, q8, q9, q10, q11, q12⟩ := cxs13 A0.out
 go_enter Tryz.func3, Tryz.ntmps3
 go_wp2_with fail
 refine (cL.out _ P0.out.hb).mono ?_
 rintro e v ⟨rfl, hbz⟩
 replace P0 := Zz.mk (P0.out.next hbz)
 replace A0 := Zz.mk (A0.out.next hbz)
 clear hbz r0 r1 r2 r3 q0 q1 q2 q3 q4 q5 q6 q7 q8 q9 q10 q11 q12
 obtain ⟨r0, r1, r2, r3⟩ := cxs4 P0.out
 obtain ⟨q0, q1, q2, q3, q4, q5, q6, q7, q8, q9, q10, q11, q12⟩ := cxs13 A0.out
 go_wp2_with fail
 refine (cB.out _ P0.out.hb).mono ?_
 rintro e v ⟨rfl, hbz⟩
 replace P0 := Zz.mk (P0.out.next hbz)
 replace A0 := Zz.mk (A0.out.next hbz)
 clear hbz r0 r1 r2 r3 q0 q1 q2 q3 q4 q5 q6 q7 q8 q9 q10 q11 q12
 obtain ⟨r0, r1, r2, r3⟩ := cxs4 P0.out
 obtain ⟨q0, q1, q2, q3, q4, q5, q6, q7, q8, q9, q10, q11, q12⟩ := cxs13 A0.out
 clear cB
 go_wp2_with fail
 refine (cM1.out _ P0.out.hb).mono ?_
 rintro e v ⟨rfl, hbz⟩
 replace P0 := Zz.mk (P0.out.next hbz)
 replace A0 := Zz.mk (A0.out.next hbz)
 clear hbz r0 r1 r2 r3 q0 q1 q2 q3 q4 q5 q6 q7 q8 q9 q10 q11 q12
 obtain ⟨r0, r1, r2, r3⟩ := cxs4 P0.out
 obtain ⟨q0, q1, q2, q3, q4, q5, q6, q7, q8, q9, q10, q11, q12⟩ := cxs13 A0.out
 clear cM1
 go_wp2_with fail
 refine (cL.out _ P0.out.hb).mono ?_
 rintro e v ⟨rfl, hbz⟩
 replace P0 := Zz.mk (P0.out.next hbz)
 replace A0 := Zz.mk (A0.out.next hbz)
 clear hbz r0 r1 r2 r3 q0 q1 q2 q3 q4 q5 q6 q7 q8 q9 q10 q11 q12
 obtain ⟨r0, r1, r2, r3⟩ := cxs4 P0.out
 obtain ⟨q0, q1, q2, q3, q4, q5, q6, q7, q8, q9, q10, q11, q12⟩ := cxs13 A0.out
 clear cL
 go_wp2_with fail
 go_ret
 exact ⟨rfl, P0.out.hb⟩
theorem lines_long (p : Plan) (a : Act) (t : ByteArray) (cp ca : List Value) (w : World) (hP : k25.K w p cp) (hA : k34.K w a ca) (hp : PlanOk p) (ha : ActOk a) (hT : Lib.Utf8Tabs 1 2 w) (h1 : bigS p = false) (h2 : muchS a = false) (hs : 40000 < t.size) :
 Calls Tryz.prog 3 #[.agg cp.toArray, .agg ca.toArray, .string t] w (BoolB true w) := by
 have P0 := Zz.mk ((Bx.new w cp 25).push (.cells ca.toArray 34))
 have A0 := Zz.mk ((Bx.new w cp 25).on ca 34 |>.at_ (show _ = w.heap.size + 1 by simp))
 have cL := Lib.hid (fun W (hW : Below w.heap.size w W) => live_walk W (Utf8Tabs_below hT hW))
 have cB := Lib.hid (fun W (hW : Below w.heap.size w W) => c_big p cp W (k25.K_below hW hP))
 rw [h1] at cB
 have cM1 := Lib.hid (fun W (hW : Below w.heap.size w W) => c_much a ca W (k34.K_below hW hA))
 rw [h2] at cM1
 have hs1 : (40000 : Int) < (t.size : Int) := by omega
 obtain ⟨A4, c4, A11, c11, A12, c12, rfl, -, -, -, -, -, -⟩ := k34_open hA
 obtain ⟨B2, d2, B3, d3, rfl, -, -, -, -⟩ := k25_open hP
 clear hP hA hT hp ha h1 h2 hs
 obtain ⟨r0, r1, r2, r3⟩ := cxs4 P0.out
 obtain ⟨q0, q1, q2, q3, q4, q5, q6, q7, q8, q9, q10, q11, q12⟩ := cxs13 A0.out
 go_enter Tryz.func3, Tryz.ntmps3
 go_wp2_with fail
 refine (cL.out _ P0.out.hb).mono ?_
 rintro e v ⟨rfl, hbz⟩
 replace P0 := Zz.mk (P0.out.next hbz)
 replace A0 := Zz.mk (A0.out.next hbz)
 clear hbz r0 r1 r2 r3 q0 q1 q2 q3 q4 q5 q6 q7 q8 q9 q10 q11 q12
 obtain ⟨r0, r1, r2, r3⟩ := cxs4 P0.out
 obtain ⟨q0, q1, q2, q3, q4, q5, q6, q7, q8, q9, q10, q11, q12⟩ := cxs13 A0.out
 go_wp2_with fail
 refine (cB.out _ P0.out.hb).mono ?_
 rintro e v ⟨rfl, hbz⟩
 replace P0 := Zz.mk (P0.out.next hbz)
 replace A0 := Zz.mk (A0.out.next hbz)
 clear hbz r0 r1 r2 r3 q0 q1 q2 q3 q4 q5 q6 q7 q8 q9 q10 q11 q12
 obtain ⟨r0, r1, r2, r3⟩ := cxs4 P0.out
 obtain ⟨q0, q1, q2, q3, q4, q5, q6, q7, q8, q9, q10, q11, q12⟩ := cxs13 A0.out
 clear cB
 go_wp2_with fail
 refine (cM1.out _ P0.out.hb).mono ?_
 rintro e v ⟨rfl, hbz⟩
 replace P0 := Zz.mk (P0.out.next hbz)
 replace A0 := Zz.mk (A0.out.next hbz)
 clear hbz r0 r1 r2 r3 q0 q1 q2 q3 q4 q5 q6 q7 q8 q9 q10 q11 q12
 obtain ⟨r0, r1, r2, r3⟩ := cxs4 P0.out
 obtain ⟨q0, q1, q2, q3, q4, q5, q6, q7, q8, q9, q10, q11, q12⟩ := cxs13 A0.out
 clear cM1
 go_wp2_with fail
 refine (cL.out _ P0.out.hb).mono ?_
 rintro e v ⟨rfl, hbz⟩
 replace P0 := Zz.mk (P0.out.next hbz)
 replace A0 := Zz.mk (A0.out.next hbz)
 clear hbz r0 r1 r2 r3 q0 q1 q2 q3 q4 q5 q6 q7 q8 q9 q10 q11 q12
 obtain ⟨r0, r1, r2, r3⟩ := cxs4 P0.out
 obtain ⟨q0, q1, q2, q3, q4, q5, q6, q7, q8, q9, q10, q11, q12⟩ := cxs13 A0.out
 clear cL
 go_wp2_with fail
 go_ret
 exact ⟨rfl, P0.out.hb⟩
theorem lines_go (p : Plan) (a : Act) (t : ByteArray) (cp ca : List Value) (w : World) (hP : k25.K w p cp) (hA : k34.K w a ca) (hp : PlanOk p) (ha : ActOk a) (hT : Lib.Utf8Tabs 1 2 w) (h1 : bigS p = false) (h2 : muchS a = false) (hs : t.size <= 40000) :
 Calls Tryz.prog 3 #[.agg cp.toArray, .agg ca.toArray, .string t] w (BoolB true w) := by
 have P0 := Zz.mk ((Bx.new w cp 25).push (.cells ca.toArray 34))
 have A0 := Zz.mk ((Bx.new w cp 25).on ca 34 |>.at_ (show _ = w.heap.size + 1 by simp))
 have cL := Lib.hid (fun W (hW : Below w.heap.size w W) => live_walk W (Utf8Tabs_below hT hW))
 have cB := Lib.hid (fun W (hW : Below w.heap.size w W) => c_big p cp W (k25.K_below hW hP))
 rw [h1] at cB
 have cM1 := Lib.hid (fun W (hW : Below w.heap.size w W) => c_much a ca W (k34.K_below hW hA))
 rw [h2] at cM1
 have hnm : ∀ j, (p.f2.getD j ByteArray.empty).size <= 1048576 := fun j => Nat.le_trans ((big_names h1).2 j) (by omega)
 have hsay : mayS p.f2.length a = true -> SayOk p.f2 a := fun hy => say_ok hnm ha h2 hy
 have cS := Lib.hid (fun W (hW : Below w.heap.size w W) => c_SLine p a cp ca W (k25.K_below hW hP) (k34.K_below hW hA) (planBd h1 hp) ha.bd hsay (Utf8Tabs_below hT hW))
 have cT := Lib.hid (fun W (hW : Below w.heap.size w W) => r_line2 p a cp ca W (k25.K_below hW hP) (k34.K_below hW hA) (planBd h1 hp) ha.bd (plan_small h1) hsay)
 have cA := Lib.hid (fun W (hW : Below w.heap.size w W) => c_Act p cp t W (k25.K_below hW hP) (planBd h1 hp) (by omega) (Utf8Tabs_below hT hW) hnm)
 have cD := Lib.hid (fun W (hW : Below w.heap.size w W) => by
  have key := r_Act p cp t W (k25.K_below hW hP) (planBd h1 hp) hs hnm (by have := (big_names h1).1; omega)
  rw [<- act_eq p t (by have := (big_names h1).1; omega)] at key
  exact key)
 have cE := Lib.hid (fun W ks js (hK : k34.K W ((actS p t).getD z34) ks) (hJ : k34.K W ((actS p t).getD z34) js) => by
  have key := r_sameAct _ _ ks js W hK hJ act_data act_data
  rw [sameA_self] at key
  exact key)
 unfold ActP at cA cD
 generalize (actS p t).getD z34 = X at *
 generalize (if (actS p t).isSome = true then (0 : Int) else 270) = E at *
 generalize (lineE p a).1 = Ls at *
 generalize (lineE p a).2 = Le at *
 have hs1 : ¬ (40000 : Int) < (t.size : Int) := by omega
 have tS : (Ls.toList == Ls.toList) = true := beq_self_eq_true _
 obtain ⟨A4, c4, A11, c11, A12, c12, rfl, -, -, -, -, -, -⟩ := k34_open hA
 obtain ⟨B2, d2, B3, d3, rfl, -, -, -, -⟩ := k25_open hP
 clear hP hA hT hp ha h1 h2 hs hnm hsay
 obtain ⟨r0, r1, r2, r3⟩ := cxs4 P0.out
 obtain ⟨q0, q1, q2, q3, q4, q5, q6, q7, q8, q9, q10, q11, q12⟩ := cxs13 A0.out
 go_enter Tryz.func3, Tryz.ntmps3
 go_wp2_with fail
 refine (cL.out _ P0.out.hb).mono ?_
 rintro e v ⟨rfl, hbz⟩
 replace P0 := Zz.mk (P0.out.next hbz)
 replace A0 := Zz.mk (A0.out.next hbz)
 clear hbz r0 r1 r2 r3 q0 q1 q2 q3 q4 q5 q6 q7 q8 q9 q10 q11 q12
 obtain ⟨r0, r1, r2, r3⟩ := cxs4 P0.out
 obtain ⟨q0, q1, q2, q3, q4, q5, q6, q7, q8, q9, q10, q11, q12⟩ := cxs13 A0.out
 go_wp2_with fail
 refine (cB.out _ P0.out.hb).mono ?_
 rintro e v ⟨rfl, hbz⟩
 replace P0 := Zz.mk (P0.out.next hbz)
 replace A0 := Zz.mk (A0.out.next hbz)
 clear hbz r0 r1 r2 r3 q0 q1 q2 q3 q4 q5 q6 q7 q8 q9 q10 q11 q12
 obtain ⟨r0, r1, r2, r3⟩ := cxs4 P0.out
 obtain ⟨q0, q1, q2, q3, q4, q5, q6, q7, q8, q9, q10, q11, q12⟩ := cxs13 A0.out
 clear cB
 go_wp2_with fail
 refine (cM1.out _ P0.out.hb).mono ?_
 rintro e v ⟨rfl, hbz⟩
 replace P0 := Zz.mk (P0.out.next hbz)
 replace A0 := Zz.mk (A0.out.next hbz)
 clear hbz r0 r1 r2 r3 q0 q1 q2 q3 q4 q5 q6 q7 q8 q9 q10 q11 q12
 obtain ⟨r0, r1, r2, r3⟩ := cxs4 P0.out
 obtain ⟨q0, q1, q2, q3, q4, q5, q6, q7, q8, q9, q10, q11, q12⟩ := cxs13 A0.out
 clear cM1 cL
 go_wp2_with fail
 refine (cS.out _ P0.out.hb).mono ?_
 rintro e v ⟨rfl, hbz⟩
 replace P0 := Zz.mk (P0.out.next hbz)
 replace A0 := Zz.mk (A0.out.next hbz)
 clear hbz r0 r1 r2 r3 q0 q1 q2 q3 q4 q5 q6 q7 q8 q9 q10 q11 q12
 obtain ⟨r0, r1, r2, r3⟩ := cxs4 P0.out
 obtain ⟨q0, q1, q2, q3, q4, q5, q6, q7, q8, q9, q10, q11, q12⟩ := cxs13 A0.out
 clear cS
 go_wp2_with fail
 refine (cT.out _ P0.out.hb).mono ?_
 rintro e v ⟨rfl, hbz⟩
 replace P0 := Zz.mk (P0.out.next hbz)
 replace A0 := Zz.mk (A0.out.next hbz)
 clear hbz r0 r1 r2 r3 q0 q1 q2 q3 q4 q5 q6 q7 q8 q9 q10 q11 q12
 obtain ⟨r0, r1, r2, r3⟩ := cxs4 P0.out
 obtain ⟨q0, q1, q2, q3, q4, q5, q6, q7, q8, q9, q10, q11, q12⟩ := cxs13 A0.out
 clear cT
 go_wp2_with fail
 refine (cA.out _ P0.out.hb).mono ?_
 rintro e v1 ⟨⟨ks, rfl, hk0⟩, hbz⟩
 replace P0 := Zz.mk (P0.out.next hbz)
 replace A0 := Zz.mk (A0.out.next hbz)
 have HK := Zz.mk (k34.K_below (ExtQ.cellsBelow v1 (.cells ks.toArray 34)) hk0)
 obtain ⟨A4k, c4k, A11k, c11k, A12k, c12k, rfl, -, -, -, -, -, -⟩ := k34_open hk0
 have C0 := Zz.mk (heap_alloc_new v1 (.cells #[.int .i64 X.f0, .int .i64 X.f1, .int .i64 X.f2, .int .i64 X.f3, .slice A4k X.f4.length c4k, .int .u32 X.f5, .int .u32 X.f6, .int .u32 X.f7, .int .u64 X.f8.f0, .int .u64 X.f8.f1, .int .i64 X.f9, .slice A11k X.f10.length c11k, .slice A12k X.f11.length c12k] 34))
 replace P0 := Zz.mk (P0.out.push (.cells #[.int .i64 X.f0, .int .i64 X.f1, .int .i64 X.f2, .int .i64 X.f3, .slice A4k X.f4.length c4k, .int .u32 X.f5, .int .u32 X.f6, .int .u32 X.f7, .int .u64 X.f8.f0, .int .u64 X.f8.f1, .int .i64 X.f9, .slice A11k X.f10.length c11k, .slice A12k X.f11.length c12k] 34))
 replace A0 := Zz.mk (A0.out.push (.cells #[.int .i64 X.f0, .int .i64 X.f1, .int .i64 X.f2, .int .i64 X.f3, .slice A4k X.f4.length c4k, .int .u32 X.f5, .int .u32 X.f6, .int .u32 X.f7, .int .u64 X.f8.f0, .int .u64 X.f8.f1, .int .i64 X.f9, .slice A11k X.f10.length c11k, .slice A12k X.f11.length c12k] 34))
 have hask := fun W => ExtQ.act_store W #[.int .i64 0, .int .i64 0, .int .i64 0, .int .i64 0, .slice none 0 0, .int .u32 0, .int .u32 0, .int .u32 0, .int .u64 0, .int .u64 0, .int .i64 0, .slice none 0 0, .slice none 0 0] #[.int .i64 X.f0, .int .i64 X.f1, .int .i64 X.f2, .int .i64 X.f3, .slice A4k X.f4.length c4k, .int .u32 X.f5, .int .u32 X.f6, .int .u32 X.f7, .int .u64 X.f8.f0, .int .u64 X.f8.f1, .int .i64 X.f9, .slice A11k X.f10.length c11k, .slice A12k X.f11.length c12k] rfl rfl (by simp [Value.oneCell'])
 clear hbz hk0 r0 r1 r2 r3 q0 q1 q2 q3 q4 q5 q6 q7 q8 q9 q10 q11 q12
 obtain ⟨r0, r1, r2, r3⟩ := cxs4 P0.out
 obtain ⟨q0, q1, q2, q3, q4, q5, q6, q7, q8, q9, q10, q11, q12⟩ := cxs13 A0.out
 go_wp2_with fail
 refine (cD.out _ P0.out.hb).mono ?_
 rintro e v2 ⟨⟨js, rfl, hk0⟩, hbz⟩
 replace P0 := Zz.mk (P0.out.next hbz)
 replace A0 := Zz.mk (A0.out.next hbz)
 replace C0 := Zz.mk (krow C0.out hbz)
 replace HK := Zz.mk (k34.K_below hbz HK.out)
 have HJ := Zz.mk (k34.K_below (ExtQ.cellsBelow v2 (.cells js.toArray 34)) hk0)
 obtain ⟨A4j, c4j, A11j, c11j, A12j, c12j, rfl, -, -, -, -, -, -⟩ := k34_open hk0
 have D0 := Zz.mk (heap_alloc_new v2 (.cells #[.int .i64 X.f0, .int .i64 X.f1, .int .i64 X.f2, .int .i64 X.f3, .slice A4j X.f4.length c4j, .int .u32 X.f5, .int .u32 X.f6, .int .u32 X.f7, .int .u64 X.f8.f0, .int .u64 X.f8.f1, .int .i64 X.f9, .slice A11j X.f10.length c11j, .slice A12j X.f11.length c12j] 34))
 replace P0 := Zz.mk (P0.out.push (.cells #[.int .i64 X.f0, .int .i64 X.f1, .int .i64 X.f2, .int .i64 X.f3, .slice A4j X.f4.length c4j, .int .u32 X.f5, .int .u32 X.f6, .int .u32 X.f7, .int .u64 X.f8.f0, .int .u64 X.f8.f1, .int .i64 X.f9, .slice A11j X.f10.length c11j, .slice A12j X.f11.length c12j] 34))
 replace A0 := Zz.mk (A0.out.push (.cells #[.int .i64 X.f0, .int .i64 X.f1, .int .i64 X.f2, .int .i64 X.f3, .slice A4j X.f4.length c4j, .int .u32 X.f5, .int .u32 X.f6, .int .u32 X.f7, .int .u64 X.f8.f0, .int .u64 X.f8.f1, .int .i64 X.f9, .slice A11j X.f10.length c11j, .slice A12j X.f11.length c12j] 34))
 replace C0 := Zz.mk (krow C0.out (ExtQ.cellsBelow v2 (.cells #[.int .i64 X.f0, .int .i64 X.f1, .int .i64 X.f2, .int .i64 X.f3, .slice A4j X.f4.length c4j, .int .u32 X.f5, .int .u32 X.f6, .int .u32 X.f7, .int .u64 X.f8.f0, .int .u64 X.f8.f1, .int .i64 X.f9, .slice A11j X.f10.length c11j, .slice A12j X.f11.length c12j] 34)))
 replace HK := Zz.mk (k34.K_below (ExtQ.cellsBelow v2 (.cells #[.int .i64 X.f0, .int .i64 X.f1, .int .i64 X.f2, .int .i64 X.f3, .slice A4j X.f4.length c4j, .int .u32 X.f5, .int .u32 X.f6, .int .u32 X.f7, .int .u64 X.f8.f0, .int .u64 X.f8.f1, .int .i64 X.f9, .slice A11j X.f10.length c11j, .slice A12j X.f11.length c12j] 34)) HK.out)
 have hasj := fun W => ExtQ.act_store W #[.int .i64 0, .int .i64 0, .int .i64 0, .int .i64 0, .slice none 0 0, .int .u32 0, .int .u32 0, .int .u32 0, .int .u64 0, .int .u64 0, .int .i64 0, .slice none 0 0, .slice none 0 0] #[.int .i64 X.f0, .int .i64 X.f1, .int .i64 X.f2, .int .i64 X.f3, .slice A4j X.f4.length c4j, .int .u32 X.f5, .int .u32 X.f6, .int .u32 X.f7, .int .u64 X.f8.f0, .int .u64 X.f8.f1, .int .i64 X.f9, .slice A11j X.f10.length c11j, .slice A12j X.f11.length c12j] rfl rfl (by simp [Value.oneCell'])
 clear hbz hk0 r0 r1 r2 r3 q0 q1 q2 q3 q4 q5 q6 q7 q8 q9 q10 q11 q12
 obtain ⟨r0, r1, r2, r3⟩ := cxs4 P0.out
 obtain ⟨q0, q1, q2, q3, q4, q5, q6, q7, q8, q9, q10, q11, q12⟩ := cxs13 A0.out
 obtain ⟨u0, u1, u2, u3, u4, u5, u6, u7, u8, u9, u10, u11, u12⟩ := cls13 C0.out
 obtain ⟨y0, y1, y2, y3, y4, y5, y6, y7, y8, y9, y10, y11, y12⟩ := cls13 D0.out
 go_wp2_with fail
 refine (cE.out _ _ _ HK.out HJ.out).mono ?_
 rintro e v3 ⟨rfl, hbz⟩
 replace P0 := Zz.mk (P0.out.next hbz)
 clear hbz
 go_wp2_with fail
 go_ret
 exact ⟨rfl, P0.out.hb⟩
theorem law_Lines (p : Plan) (a : Act) (t : ByteArray) (cp ca : List Value) (w : World) (hP : k25.K w p cp) (hA : k34.K w a ca) (hp : PlanOk p) (ha : ActOk a) (hT : Lib.Utf8Tabs 1 2 w) :
 Calls Tryz.prog 3 #[.agg cp.toArray, .agg ca.toArray, .string t] w (BoolB true w) := by
 cases h1 : bigS p with
 | true => exact lines_big p a t cp ca w hP hA hp ha hT h1
 | false =>
   cases h2 : muchS a with
   | true => exact lines_ma p a t cp ca w hP hA hp ha hT h1 h2
   | false =>
     by_cases hs : t.size <= 40000
     · exact lines_go p a t cp ca w hP hA hp ha hT h1 h2 hs
     · exact lines_long p a t cp ca w hP hA hp ha hT h1 h2 (by omega)
end Go.Proofs.YtpdinahdcedmkaaGreatDoor.Ext
