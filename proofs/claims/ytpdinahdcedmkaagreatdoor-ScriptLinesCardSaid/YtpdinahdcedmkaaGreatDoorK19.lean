import Derived.Test.YtpdinahdcedmkaaGreatDoorK18
import Derived.Test.YtpdinahdcedmkaaGreatDoorK12
import Derived.Test.YtpdinahdcedmkaaGreatDoorK13
import Derived.Test.YtpdinahdcedmkaaGreatDoorK5
import Derived.Test.YtpdinahdcedmkaaGreatDoorK10
import Derived.Test.YtpdinahdcedmkaaGreatDoorK6
set_option linter.unusedVariables false
set_option linter.unusedSimpArgs false
set_option maxHeartbeats 16000000
set_option maxRecDepth 100000
/- script.Act, walked. -/
namespace Go.Proofs.YtpdinahdcedmkaaGreatDoor.Ext
open Go.Proofs.YtpdinahdcedmkaaGreatDoor.P
open Go.RowKit YtpdinahdcedmkaaGreatDoorW.PrintWords YtpdinahdcedmkaaGreatDoorW.PrintLast YtpdinahdcedmkaaGreatDoorW.PrintMore Go.Proofs.YtpdinahdcedmkaaGreatDoor.Spec
structure AR (p : Plan) (B2 : Option Addr) (d2 : Nat) (B3 : Option Addr) (d3 : Nat) (w W : World) (wb : Nat) (v : Value) : Prop where
 pl : W.heap[w.heap.size]? = some (.cells #[.int .i64 p.f0, .int .i64 p.f1, .slice B2 p.f2.length d2, .slice B3 p.f3.length d3] 25)
 rs : W.heap[w.heap.size + 1]? = some (.cells #[.int .i64 0, .int .i64 0, .int .i64 0, .int .i64 0, .slice none 0 0, .int .u32 0, .int .u32 0, .int .u32 0, .int .u64 0, .int .u64 0, .int .i64 0, .slice none 0 0, .slice none 0 0] 34)
 wx : W.heap[wb]? = some (.cells #[v] 22)
 hb : Below w.heap.size w W
 lt : w.heap.size + 1 < wb
theorem AR.below {p : Plan} {B2 : Option Addr} {d2 : Nat} {B3 : Option Addr} {d3 : Nat} {w W W' : World} {wb : Nat} {v : Value} (h : AR p B2 d2 B3 d3 w W wb v) (hb : Below W.heap.size W W') : AR p B2 d2 B3 d3 w W' wb v :=
 ⟨krow h.pl hb, krow h.rs hb, krow h.wx hb, h.hb.trans (hb.mono h.hb.size), h.lt⟩
theorem K_zero (w : World) : k34.K w z34 [.int .i64 0, .int .i64 0, .int .i64 0, .int .i64 0, .slice none 0 0, .int .u32 0, .int .u32 0, .int .u32 0, .int .u64 0, .int .u64 0, .int .i64 0, .slice none 0 0, .slice none 0 0] := k34_mk w z34 (A4 := none) (c4 := 0) (Nat.le_refl _) (Kd.C_nil _ _) (A11 := none) (c11 := 0) (Nat.le_refl _) (Kd.C_nil _ _) (A12 := none) (c12 := 0) (Nat.le_refl _) (Kd.C_nil _ _)
theorem words_tail (g n c : Nat) (hc : n + 1 <= c) : ∀ W, (Instr.slice 22 (.slice (some ⟨g, 0, none⟩) (n + 1) c) (some (.int .i64 1)) none none).run Tryz.prog W = .ok (.slice (some (if c = 1 then ⟨g, 0, none⟩ else ⟨g, 1, none⟩)) n (c - 1)) W := by
 intro W
 rw [run_slice_l (P := Tryz.prog) (w := W) 22 (some ⟨g, 0, none⟩) (n + 1) c (by kernel_rfl) .i64 1 (by omega) (by omega)]
 have hz : ∀ W, (sizeOf (Tryz.prog.elem 22)).run Tryz.prog W = .ok 1 W := by intro W; kernel_rfl
 rw [hz]
 simp only [Result.andThen, sliced]
 by_cases h : c = 1
 · subst h
   simp
 · have h2 : ¬ (c : Int) = 1 := by omega
   simp [h, h2, Addr.add]
theorem words_left (W : World) (g c : Nat) (q : ByteArray) (tl : List ByteArray) (hc : tl.length + 1 <= c) (h : ExtQ.StrAt W (some ⟨g, 0, none⟩) (q :: tl)) : ExtQ.StrAt W (some (if c = 1 then ⟨g, 0, none⟩ else ⟨g, 1, none⟩)) tl := by
 by_cases h1 : c = 1
 · rw [if_pos h1]
   exact ⟨fun hl => by omega⟩
 · rw [if_neg h1]
   exact h.tail
theorem join_word : ∀ (ws : List (List UInt8)), ∀ x ∈ ws, x.length <= (joinW ws).length
 | [], x, h => by cases h
 | [y], x, h => by simp only [List.mem_singleton] at h; subst h; exact Nat.le_refl _
 | y :: z :: t, x, h => by
   have ih := join_word (z :: t)
   simp only [joinW, List.length_append, List.length_cons]
   rcases List.mem_cons.1 h with rfl | h
   · omega
   · have := ih x h
     try simp only [List.length_append] at this
     omega
theorem join_len : ∀ (ws : List (List UInt8)), ws.length <= (joinW ws).length + 1
 | [] => by simp
 | [y] => by simp
 | y :: z :: t => by
   have ih := join_len (z :: t)
   simp only [joinW, List.length_append, List.length_cons] at ih ⊢
   omega
theorem words_small {t : ByteArray} {ws : List ByteArray} (h : ExtQ.wordsS t = some ws) : ws ≠ [] /\ ws.length <= t.size + 1 /\ ∀ s ∈ ws, s.size <= t.size := by
 unfold ExtQ.wordsS at h
 rw [Option.map_eq_some_iff] at h
 obtain ⟨us, hu, rfl⟩ := h
 obtain ⟨hj, hne, _⟩ := wl_words hu
 have hl : (joinW us).length = t.size := by rw [hj, Array.length_toList]; rfl
 refine ⟨by simpa using hne, ?_, ?_⟩
 · have := join_len us
   rw [List.length_map]; omega
 · intro s hs
   rw [List.mem_map] at hs
   obtain ⟨u, hm, rfl⟩ := hs
   have := join_word us u hm
   show u.toArray.size <= _
   simp only [List.size_toArray]
   omega
theorem act_nw (p : Plan) (cp : List Value) (t : ByteArray) (w : World) (hP : k25.K w p cp) (hp : PlanBd p) (hs : t.size <= 1073741824) (hw : ExtQ.wordsS t = none) :
 Calls Tryz.prog 13 #[.agg cp.toArray, .string t] w (ActP none w) := by
 have cw := fun W => ExtQ.words_walk t W hs
 rw [hw] at cw
 unfold ExtQ.WordsPost at cw
 replace cw := Lib.hid cw
 clear hp hs hw
 have P0 := Zz.mk ((Bx.new w cp 25).push (.cells #[.int .i64 0, .int .i64 0, .int .i64 0, .int .i64 0, .slice none 0 0, .int .u32 0, .int .u32 0, .int .u32 0, .int .u64 0, .int .u64 0, .int .i64 0, .slice none 0 0, .slice none 0 0] 34))
 have S0 := Zz.mk ((Bx.new w cp 25).on [.int .i64 0, .int .i64 0, .int .i64 0, .int .i64 0, .slice none 0 0, .int .u32 0, .int .u32 0, .int .u32 0, .int .u64 0, .int .u64 0, .int .i64 0, .slice none 0 0, .slice none 0 0] 34 |>.at_ (show _ = w.heap.size + 1 by simp))
 obtain ⟨B2, d2, B3, d3, rfl, m2, e2, m3, e3⟩ := k25_open hP
 clear hP m2 e2 m3 e3
 go_enter Tryz.func13, Tryz.ntmps13
 go_wp2_with (first
  | (go_at_call 32
     with_reducible refine (cw.out _).mono ?_
     rintro e v1 ⟨⟨u, rfl, hR⟩, hb⟩
     obtain ⟨A1, c1, rfl, -, -⟩ := Kd.R_reads hR
     have HAR := Zz.mk (⟨knew (krow P0.out.row hb), knew (krow S0.out.row hb), heap_alloc_new v1 (.cells #[.slice A1 ([] : List ByteArray).length c1] 22), (P0.out.hb.trans (hb.mono P0.out.hb.size)).alloc ((P0.out.hb.trans (hb.mono P0.out.hb.size)).size) _, (Array.getElem?_eq_some_iff.1 (krow S0.out.row hb)).1⟩ : AR p B2 d2 B3 d3 w (v1.alloc (.cells #[.slice A1 ([] : List ByteArray).length c1] 22)) v1.heap.size (.slice A1 ([] : List ByteArray).length c1))
     clear hR
     clear hb)
  | (refine wpList_store_row rfl 34 (.tmp 4) (.tmp 26) rfl (w.heap.size + 1) #[.int .i64 0, .int .i64 0, .int .i64 0, .int .i64 0, .slice none 0 0, .int .u32 0, .int .u32 0, .int .u32 0, .int .u64 0, .int .u64 0, .int .i64 0, .slice none 0 0, .slice none 0 0] rfl rfl 34 _ HAR.out.rs actC_info2 rfl (by simp [Value.oneCell']) ?_)
  | fail)
 refine bodyPost_ret (v := .tuple #[.agg #[.int .i64 0, .int .i64 0, .int .i64 0, .int .i64 0, .slice none 0 0, .int .u32 0, .int .u32 0, .int .u32 0, .int .u64 0, .int .u64 0, .int .i64 0, .slice none 0 0, .slice none 0 0], .int .i64 270]) (ExtQ.results_cell2 Tryz.results13 _ _ _ (w.heap.size + 1) rfl _ (.int .i64 270) (run_loadVar_row _ (w.heap.size + 1) 34 34 _ (0, 0) _ (setRow_heap _ _ _ _ _ _ HAR.out.rs) Tryz.underlying34 rfl actC_info2) rfl) rfl ?_
 exact ⟨⟨_, rfl, K_zero _⟩, below_setRow HAR.out.hb (by omega) _⟩
theorem act_nh (p : Plan) (cp : List Value) (t : ByteArray) (w : World) (hP : k25.K w p cp) (hp : PlanBd p) (hs : t.size <= 1073741824) (ws : List ByteArray) (hw : ExtQ.wordsS t = some ws) (hh : headedS p.f0 p.f1 p.f2 = false) :
 Calls Tryz.prog 13 #[.agg cp.toArray, .string t] w (ActP none w) := by
 have cw := fun W => ExtQ.words_walk t W hs
 rw [hw] at cw
 unfold ExtQ.WordsPost at cw
 replace cw := Lib.hid cw
 have ch := fun W (hW : Below w.heap.size w W) => c_head p cp W (k25.K_below hW hP) hp
 rw [hh] at ch
 replace ch := Lib.hid ch
 clear hp hs hw hh
 have P0 := Zz.mk ((Bx.new w cp 25).push (.cells #[.int .i64 0, .int .i64 0, .int .i64 0, .int .i64 0, .slice none 0 0, .int .u32 0, .int .u32 0, .int .u32 0, .int .u64 0, .int .u64 0, .int .i64 0, .slice none 0 0, .slice none 0 0] 34))
 have S0 := Zz.mk ((Bx.new w cp 25).on [.int .i64 0, .int .i64 0, .int .i64 0, .int .i64 0, .slice none 0 0, .int .u32 0, .int .u32 0, .int .u32 0, .int .u64 0, .int .u64 0, .int .i64 0, .slice none 0 0, .slice none 0 0] 34 |>.at_ (show _ = w.heap.size + 1 by simp))
 obtain ⟨B2, d2, B3, d3, rfl, m2, e2, m3, e3⟩ := k25_open hP
 clear hP m2 e2 m3 e3
 go_enter Tryz.func13, Tryz.ntmps13
 go_wp2_with (first
  | (go_at_call 32
     with_reducible refine (cw.out _).mono ?_
     rintro e v1 ⟨⟨u, rfl, hR⟩, hb⟩
     simp only [Option.getD_some] at hR
     obtain ⟨A1, c1, rfl, -, -⟩ := Kd.R_reads hR
     have HAR := Zz.mk (⟨knew (krow P0.out.row hb), knew (krow S0.out.row hb), heap_alloc_new v1 (.cells #[.slice A1 ws.length c1] 22), (P0.out.hb.trans (hb.mono P0.out.hb.size)).alloc ((P0.out.hb.trans (hb.mono P0.out.hb.size)).size) _, (Array.getElem?_eq_some_iff.1 (krow S0.out.row hb)).1⟩ : AR p B2 d2 B3 d3 w (v1.alloc (.cells #[.slice A1 ws.length c1] 22)) v1.heap.size (.slice A1 ws.length c1))
     obtain ⟨r0, r1, r2, r3⟩ := cls4 HAR.out.pl
     clear hR
     clear hb)
  | (go_at_call 24
     with_reducible refine (ch.out _ HAR.out.hb).mono ?_
     rintro e v2 ⟨rfl, hb⟩
     replace HAR := Zz.mk (HAR.out.below hb)
     clear hb)
  | (refine wpList_store_row rfl 34 (.tmp 4) (.tmp 26) rfl (w.heap.size + 1) #[.int .i64 0, .int .i64 0, .int .i64 0, .int .i64 0, .slice none 0 0, .int .u32 0, .int .u32 0, .int .u32 0, .int .u64 0, .int .u64 0, .int .i64 0, .slice none 0 0, .slice none 0 0] rfl rfl 34 _ HAR.out.rs actC_info2 rfl (by simp [Value.oneCell']) ?_)
  | fail)
 refine bodyPost_ret (v := .tuple #[.agg #[.int .i64 0, .int .i64 0, .int .i64 0, .int .i64 0, .slice none 0 0, .int .u32 0, .int .u32 0, .int .u32 0, .int .u64 0, .int .u64 0, .int .i64 0, .slice none 0 0, .slice none 0 0], .int .i64 270]) (ExtQ.results_cell2 Tryz.results13 _ _ _ (w.heap.size + 1) rfl _ (.int .i64 270) (run_loadVar_row _ (w.heap.size + 1) 34 34 _ (0, 0) _ (setRow_heap _ _ _ _ _ _ HAR.out.rs) Tryz.underlying34 rfl actC_info2) rfl) rfl ?_
 exact ⟨⟨_, rfl, K_zero _⟩, below_setRow HAR.out.hb (by omega) _⟩
theorem act_norow (p : Plan) (cp : List Value) (t : ByteArray) (w : World) (hP : k25.K w p cp) (hp : PlanBd p) (hs : t.size <= 1073741824) (q : ByteArray) (tl : List ByteArray) (hw : ExtQ.wordsS t = some (q :: tl)) (hh : headedS p.f0 p.f1 p.f2 = true) (hr : ExtQ.rowI q < 1) :
 Calls Tryz.prog 13 #[.agg cp.toArray, .string t] w (ActP none w) := by
 have cw := fun W => ExtQ.words_walk t W hs
 rw [hw] at cw
 unfold ExtQ.WordsPost at cw
 replace cw := Lib.hid cw
 have ch := fun W (hW : Below w.heap.size w W) => c_head p cp W (k25.K_below hW hP) hp
 rw [hh] at ch
 replace ch := Lib.hid ch
 have cr := Lib.hid c_rows
 have ci := Lib.hid (@ExtQ.row_ix q)
 have hst := fun w => rows_store w #[.string ⟨#[]⟩, .string ⟨#[]⟩, .string ⟨#[]⟩, .string ⟨#[]⟩, .string ⟨#[]⟩, .string ⟨#[]⟩, .string ⟨#[]⟩, .string ⟨#[]⟩, .string ⟨#[]⟩, .string ⟨#[]⟩, .string ⟨#[]⟩, .string ⟨#[]⟩, .string ⟨#[]⟩, .string ⟨#[]⟩, .string ⟨#[]⟩, .string ⟨#[]⟩, .string ⟨#[]⟩, .string ⟨#[]⟩, .string ⟨#[]⟩, .string ⟨#[]⟩, .string ⟨#[]⟩, .string ⟨#[]⟩, .string ⟨#[]⟩, .string ⟨#[]⟩, .string ⟨#[]⟩, .string ⟨#[]⟩, .string ⟨#[]⟩, .string ⟨#[]⟩, .string ⟨#[]⟩, .string ⟨#[]⟩, .string ⟨#[]⟩, .string ⟨#[]⟩, .string ⟨#[]⟩, .string ⟨#[]⟩, .string ⟨#[]⟩, .string ⟨#[]⟩] rfl
 generalize ExtQ.rowI q = d at *
 clear hp hs hw hh
 have P0 := Zz.mk ((Bx.new w cp 25).push (.cells #[.int .i64 0, .int .i64 0, .int .i64 0, .int .i64 0, .slice none 0 0, .int .u32 0, .int .u32 0, .int .u32 0, .int .u64 0, .int .u64 0, .int .i64 0, .slice none 0 0, .slice none 0 0] 34))
 have S0 := Zz.mk ((Bx.new w cp 25).on [.int .i64 0, .int .i64 0, .int .i64 0, .int .i64 0, .slice none 0 0, .int .u32 0, .int .u32 0, .int .u32 0, .int .u64 0, .int .u64 0, .int .i64 0, .slice none 0 0, .slice none 0 0] 34 |>.at_ (show _ = w.heap.size + 1 by simp))
 obtain ⟨B2, d2, B3, d3, rfl, m2, e2, m3, e3⟩ := k25_open hP
 clear hP m2 e2 m3 e3
 go_enter Tryz.func13, Tryz.ntmps13
 go_wp2_with (first
  | (go_at_call 32
     with_reducible refine (cw.out _).mono ?_
     rintro e v1 ⟨⟨u, rfl, hR⟩, hb⟩
     simp only [Option.getD_some] at hR
     obtain ⟨g, cw, rfl, hcw, hst1⟩ := ExtQ.str_row hR (by simp)
     have HAR := Zz.mk (⟨knew (krow P0.out.row hb), knew (krow S0.out.row hb), heap_alloc_new v1 (.cells #[.slice (some ⟨g, 0, none⟩) (q :: tl).length cw] 22), (P0.out.hb.trans (hb.mono P0.out.hb.size)).alloc ((P0.out.hb.trans (hb.mono P0.out.hb.size)).size) _, (Array.getElem?_eq_some_iff.1 (krow S0.out.row hb)).1⟩ : AR p B2 d2 B3 d3 w (v1.alloc (.cells #[.slice (some ⟨g, 0, none⟩) (q :: tl).length cw] 22)) v1.heap.size (.slice (some ⟨g, 0, none⟩) (q :: tl).length cw))
     have HST := Zz.mk (hst1.below (ExtQ.cellsBelow _ (.cells #[.slice (some ⟨g, 0, none⟩) (q :: tl).length cw] 22)))
     rw [List.length_cons] at HAR hcw
     obtain ⟨r0, r1, r2, r3⟩ := cls4 HAR.out.pl
     clear hR hst1
     clear hb)
  | (go_at_call 24
     with_reducible refine (ch.out _ HAR.out.hb).mono ?_
     rintro e v2 ⟨rfl, hb⟩
     replace HST := Zz.mk (HST.out.below hb)
     replace HAR := Zz.mk (HAR.out.below hb)
     clear hb)
  | (go_at_call 33
     with_reducible refine (cr.out _).mono ?_
     rintro e v3 ⟨rfl, hb⟩
     replace HST := Zz.mk ((HST.out.below hb).below (ExtQ.cellsBelow v3 (.cells rowC 60)))
     replace HAR := Zz.mk ((HAR.out.below hb).below (ExtQ.cellsBelow v3 (.cells rowC 60)))
     clear hb)
  | (go_at_call 34
     have hx1 : (v3.alloc (.cells rowC 60)).cell? ⟨v1.heap.size, 0, none⟩ = some (.slice (some ⟨g, 0, none⟩) (tl.length + 1) cw) := blk_cell HAR.out.wx 0
     with_reducible refine (ci.out _ v3.heap.size v1.heap.size g 0 (tl.length + 1) cw (heap_alloc_new v3 _) hx1 (by omega) HST.out.head).mono ?_
     rintro e v4 ⟨rfl, hb⟩
     clear hx1
     replace HST := Zz.mk (HST.out.below hb)
     replace HAR := Zz.mk (HAR.out.below hb)
     clear hb)
  | (refine wpList_store_row rfl 34 (.tmp 4) (.tmp 33) rfl (w.heap.size + 1) #[.int .i64 0, .int .i64 0, .int .i64 0, .int .i64 0, .slice none 0 0, .int .u32 0, .int .u32 0, .int .u32 0, .int .u64 0, .int .u64 0, .int .i64 0, .slice none 0 0, .slice none 0 0] rfl rfl 34 _ HAR.out.rs actC_info2 rfl (by simp [Value.oneCell']) ?_)
  | fail)
 refine bodyPost_ret (v := .tuple #[.agg #[.int .i64 0, .int .i64 0, .int .i64 0, .int .i64 0, .slice none 0 0, .int .u32 0, .int .u32 0, .int .u32 0, .int .u64 0, .int .u64 0, .int .i64 0, .slice none 0 0, .slice none 0 0], .int .i64 270]) (ExtQ.results_cell2 Tryz.results13 _ _ _ (w.heap.size + 1) rfl _ (.int .i64 270) (run_loadVar_row _ (w.heap.size + 1) 34 34 _ (0, 0) _ (setRow_heap _ _ _ _ _ _ HAR.out.rs) Tryz.underlying34 rfl actC_info2) rfl) rfl ?_
 exact ⟨⟨_, rfl, K_zero _⟩, below_setRow HAR.out.hb (by omega) _⟩
theorem AB.start {p : Plan} {B2 : Option Addr} {d2 : Nat} {B3 : Option Addr} {d3 : Nat} {w v4 : World} {wb : Nat} {v : Value} (h : AR p B2 d2 B3 d3 w v4 wb v) {d : Int} {G : Addr} {cw : Nat} {tl : List ByteArray} (hst : ExtQ.StrAt v4 (some G) tl) (hl : tl.length <= cw - 1) (h1 : tl.length <= 1073741824) : AB p B2 d2 B3 d3 w ((v4.alloc (.cells #[.int .i64 d, .int .i64 0, .int .i64 0, .int .i64 0, .slice none 0 0, .int .u32 0, .int .u32 0, .int .u32 0, .int .u64 0, .int .u64 0, .int .i64 0, .slice none 0 0, .slice none 0 0] 34)).alloc (.cells #[.int .i64 p.f0, .int .i64 p.f1, .slice B2 p.f2.length d2, .slice B3 p.f3.length d3, .slice (some G) tl.length (cw - 1)] 67)).drew v4.heap.size (v4.heap.size + 1) tl { z34 with f0 := d } (.slice none 0 0) (.slice none 0 0) (.slice none 0 0) := by
 have hb := Below.drew ((ExtQ.cellsBelow v4 (.cells #[.int .i64 d, .int .i64 0, .int .i64 0, .int .i64 0, .slice none 0 0, .int .u32 0, .int .u32 0, .int .u32 0, .int .u64 0, .int .u64 0, .int .i64 0, .slice none 0 0, .slice none 0 0] 34)).trans ((ExtQ.cellsBelow (v4.alloc (.cells #[.int .i64 d, .int .i64 0, .int .i64 0, .int .i64 0, .slice none 0 0, .int .u32 0, .int .u32 0, .int .u32 0, .int .u64 0, .int .u64 0, .int .i64 0, .slice none 0 0, .slice none 0 0] 34)) (.cells #[.int .i64 p.f0, .int .i64 p.f1, .slice B2 p.f2.length d2, .slice B3 p.f3.length d3, .slice (some G) tl.length (cw - 1)] 67)).mono (by simp)))
 have hr := heap_alloc_new (v4.alloc (.cells #[.int .i64 d, .int .i64 0, .int .i64 0, .int .i64 0, .slice none 0 0, .int .u32 0, .int .u32 0, .int .u32 0, .int .u64 0, .int .u64 0, .int .i64 0, .slice none 0 0, .slice none 0 0] 34)) (.cells #[.int .i64 p.f0, .int .i64 p.f1, .slice B2 p.f2.length d2, .slice B3 p.f3.length d3, .slice (some G) tl.length (cw - 1)] 67)
 rw [show (v4.alloc (.cells #[.int .i64 d, .int .i64 0, .int .i64 0, .int .i64 0, .slice none 0 0, .int .u32 0, .int .u32 0, .int .u32 0, .int .u64 0, .int .u64 0, .int .i64 0, .slice none 0 0, .slice none 0 0] 34)).heap.size = v4.heap.size + 1 by simp] at hr
 have h2 := h.below hb
 exact ⟨⟨⟨_, _, hr, hl, h1, hst.below hb⟩⟩, knew (heap_alloc_new v4 _), h2.pl, h2.rs, h2.hb, Held.nil _ _ _ _, Held.nil _ _ _ _, Held.nil _ _ _ _, (Array.getElem?_eq_some_iff.1 h.rs).1, by omega⟩
section
variable {p : Plan} {B2 : Option Addr} {d2 : Nat} {B3 : Option Addr} {d3 : Nat} {w W W' : World} {ab g : Nat} {l : List ByteArray} {x : Act} {u4 u11 u12 : Value}
theorem AB.iter (h : AB p B2 d2 B3 d3 w W ab g l x u4 u11 u12) {k pos : Nat} {s : ByteArray} (hk : W.heap[k]? = some (.stringIter s pos)) (hgt : g < k) (q : Nat) : AB p B2 d2 B3 d3 w (W.iterAt k s q) ab g l x u4 u11 u12 :=
 h.kept (ExtQ.iterAt_grown W k s q) (fun k' e => (by cases e; exact ⟨by have := h.g2; omega, fun cells fr => ⟨fun he => (by rw [hk] at he; cases he), fun he => (by rw [hk] at he; cases he), fun he => (by rw [hk] at he; cases he)⟩⟩)) (h.rd.step (ExtQ.iterAt_grown W k s q) (fun k' e => (by cases e; exact ⟨by omega, fun cells fr he => (by rw [hk] at he; cases he)⟩)))
theorem held_K (h4 : Held k74 74 w.heap.size W u4 x.f4) (h11 : Held (Kd.int .u8) 5 w.heap.size W u11 x.f10) (h12 : Held Kd.bool 4 w.heap.size W u12 x.f11) : k34.K W x [.int .i64 x.f0, .int .i64 x.f1, .int .i64 x.f2, .int .i64 x.f3, u4, .int .u32 x.f5, .int .u32 x.f6, .int .u32 x.f7, .int .u64 x.f8.f0, .int .u64 x.f8.f1, .int .i64 x.f9, u11, u12] := by
 obtain ⟨A4, c4, rfl, l4, g4, _⟩ := h4.out
 obtain ⟨A11, c11, rfl, l11, g11, _⟩ := h11.out
 obtain ⟨A12, c12, rfl, l12, g12, _⟩ := h12.out
 exact k34_mk W x l4 g4 l11 g11 l12 g12
theorem AB.ones (h : AB p B2 d2 B3 d3 w W ab g l x u4 u11 u12) : (#[.int .i64 x.f0, .int .i64 x.f1, .int .i64 x.f2, .int .i64 x.f3, u4, .int .u32 x.f5, .int .u32 x.f6, .int .u32 x.f7, .int .u64 x.f8.f0, .int .u64 x.f8.f1, .int .i64 x.f9, u11, u12]).all (·.oneCell') = true := by
 obtain ⟨A4, c4, rfl, _⟩ := h.h4.out
 obtain ⟨A11, c11, rfl, _⟩ := h.h11.out
 obtain ⟨A12, c12, rfl, _⟩ := h.h12.out
 simp [Value.oneCell']
theorem AB.act (h : AB p B2 d2 B3 d3 w W ab g l x u4 u11 u12) : k34.K W x [.int .i64 x.f0, .int .i64 x.f1, .int .i64 x.f2, .int .i64 x.f3, u4, .int .u32 x.f5, .int .u32 x.f6, .int .u32 x.f7, .int .u64 x.f8.f0, .int .u64 x.f8.f1, .int .i64 x.f9, u11, u12] := held_K h.h4 h.h11 h.h12
theorem AB.actR (h : AB p B2 d2 B3 d3 w W ab g l x u4 u11 u12) (cs : Array Value) : k34.K (W.setRow (w.heap.size + 1) cs) x [.int .i64 x.f0, .int .i64 x.f1, .int .i64 x.f2, .int .i64 x.f3, u4, .int .u32 x.f5, .int .u32 x.f6, .int .u32 x.f7, .int .u64 x.f8.f0, .int .u64 x.f8.f1, .int .i64 x.f9, u11, u12] :=
 held_K (h.h4.step flat_lv (setRow_grown _ _ _) (fun k hk cells fr he => (by cases hk; rw [h.rs] at he; cases he))) (h.h11.step (flat_int _) (setRow_grown _ _ _) (fun k hk cells fr he => (by cases hk; rw [h.rs] at he; cases he))) (h.h12.step flat_bool (setRow_grown _ _ _) (fun k hk cells fr he => (by cases hk; rw [h.rs] at he; cases he)))
end
theorem act_go (p : Plan) (cp : List Value) (t : ByteArray) (w : World) (hP : k25.K w p cp) (hp : PlanBd p) (hs : t.size <= 1073741824) (hT : Lib.Utf8Tabs 1 2 w) (hnm : ∀ i, (p.f2.getD i ByteArray.empty).size <= 1048576) (q : ByteArray) (tl : List ByteArray) (hw : ExtQ.wordsS t = some (q :: tl)) (hh : headedS p.f0 p.f1 p.f2 = true) (hr : ¬ ExtQ.rowI q < 1) :
 Calls Tryz.prog 13 #[.agg cp.toArray, .string t] w (ActP (if mayS p.f2.length (readS p.f2 (q :: tl)) = true /\ lineB p.f2 (readS p.f2 (q :: tl)) = t then some (readS p.f2 (q :: tl)) else none) w) := by
 have hsm := words_small hw
 have ht1 : tl.length <= 1073741824 := by have := hsm.2.1; rw [List.length_cons] at this; omega
 have HZS : Zz (∀ s ∈ tl, s.size <= 1073741824) := ⟨fun s h => Nat.le_trans (hsm.2.2 s (List.mem_cons_of_mem _ h)) hs⟩
 have cw := fun W => ExtQ.words_walk t W hs
 rw [hw] at cw
 unfold ExtQ.WordsPost at cw
 replace cw := Lib.hid cw
 have ch := fun W (hW : Below w.heap.size w W) => c_head p cp W (k25.K_below hW hP) hp
 rw [hh] at ch
 replace ch := Lib.hid ch
 have cr := Lib.hid c_rows
 have ci := Lib.hid (@ExtQ.row_ix q)
 have hst := fun w => rows_store w #[.string ⟨#[]⟩, .string ⟨#[]⟩, .string ⟨#[]⟩, .string ⟨#[]⟩, .string ⟨#[]⟩, .string ⟨#[]⟩, .string ⟨#[]⟩, .string ⟨#[]⟩, .string ⟨#[]⟩, .string ⟨#[]⟩, .string ⟨#[]⟩, .string ⟨#[]⟩, .string ⟨#[]⟩, .string ⟨#[]⟩, .string ⟨#[]⟩, .string ⟨#[]⟩, .string ⟨#[]⟩, .string ⟨#[]⟩, .string ⟨#[]⟩, .string ⟨#[]⟩, .string ⟨#[]⟩, .string ⟨#[]⟩, .string ⟨#[]⟩, .string ⟨#[]⟩, .string ⟨#[]⟩, .string ⟨#[]⟩, .string ⟨#[]⟩, .string ⟨#[]⟩, .string ⟨#[]⟩, .string ⟨#[]⟩, .string ⟨#[]⟩, .string ⟨#[]⟩, .string ⟨#[]⟩, .string ⟨#[]⟩, .string ⟨#[]⟩, .string ⟨#[]⟩] rfl
 have cs := Lib.hid (c_Has (ExtQ.rowI q))
 have ca := Lib.hid (row_ascii (ExtQ.rowI q))
 have cl := Lib.hid (row_lets (ExtQ.rowI q))
 have hro := readS_ok p.f2 (q :: tl)
 obtain ⟨r, hR⟩ : ∃ r, (if mayS p.f2.length (readS p.f2 (q :: tl)) = true /\ lineB p.f2 (readS p.f2 (q :: tl)) = t then some (readS p.f2 (q :: tl)) else none) = r := ⟨_, rfl⟩
 rw [hR]
 have HQ : Zz ((readS p.f2 (q :: tl)) = (putsS p.f2 (rowOf (ExtQ.rowI q)).2.data.toList ({ z34 with f0 := ExtQ.rowI q }, tl)).1) := ⟨rfl⟩
 have HR := Lib.hid hR
 clear hR hsm
 generalize (readS p.f2 (q :: tl)) = X at *
 have cm := Lib.hid (fun W (hW : Below w.heap.size w W) ks (hK : k34.K W X ks) => c_may p X cp ks W (k25.K_below hW hP) hK hro.bd)
 have cn := Lib.hid (fun (hm : mayS p.f2.length X = true) W (hW : Below w.heap.size w W) ks (hK : k34.K W X ks) => c_line p X cp ks W (k25.K_below hW hP) hK (say_may hnm hro hm) (Utf8Tabs_below hT hW))
 generalize mayS p.f2.length X = M at *
 generalize lineB p.f2 X = Ln at *
 have cv := Lib.hid (fun B2 d2 (e2 : Kd.C Kd.string w B2 p.f2.length p.f2) (m2 : p.f2.length <= d2) B3 d3 W ab g l x u4 u11 u12 h hz c hc => step_any p B2 d2 B3 d3 w W ab g l x u4 u11 u12 h hz e2 m2 hp.few (fun i => Nat.le_trans (hnm i) (by omega)) hT c hc)
 clear hro hT hnm
 generalize ExtQ.rowI q = d at *
 generalize (rowOf d).2 = hz at *
 have P0 := Zz.mk ((Bx.new w cp 25).push (.cells #[.int .i64 0, .int .i64 0, .int .i64 0, .int .i64 0, .slice none 0 0, .int .u32 0, .int .u32 0, .int .u32 0, .int .u64 0, .int .u64 0, .int .i64 0, .slice none 0 0, .slice none 0 0] 34))
 have S0 := Zz.mk ((Bx.new w cp 25).on [.int .i64 0, .int .i64 0, .int .i64 0, .int .i64 0, .slice none 0 0, .int .u32 0, .int .u32 0, .int .u32 0, .int .u64 0, .int .u64 0, .int .i64 0, .slice none 0 0, .slice none 0 0] 34 |>.at_ (show _ = w.heap.size + 1 by simp))
 obtain ⟨B2, d2, B3, d3, rfl, m2, e2, m3, e3⟩ := k25_open hP
 replace cv := Lib.hid (cv.out B2 d2 e2 m2 B3 d3)
 clear hP hp hs hw hh m2 e2 m3 e3
 go_enter Tryz.func13, Tryz.ntmps13
 go_wp2_with (first
  | (go_at_call 32
     with_reducible refine (cw.out _).mono ?_
     rintro e v1 ⟨⟨u, rfl, hR⟩, hb⟩
     simp only [Option.getD_some] at hR
     obtain ⟨g, cw, rfl, hcw, hst1⟩ := ExtQ.str_row hR (by simp)
     have HAR := Zz.mk (⟨knew (krow P0.out.row hb), knew (krow S0.out.row hb), heap_alloc_new v1 (.cells #[.slice (some ⟨g, 0, none⟩) (q :: tl).length cw] 22), (P0.out.hb.trans (hb.mono P0.out.hb.size)).alloc ((P0.out.hb.trans (hb.mono P0.out.hb.size)).size) _, (Array.getElem?_eq_some_iff.1 (krow S0.out.row hb)).1⟩ : AR p B2 d2 B3 d3 w (v1.alloc (.cells #[.slice (some ⟨g, 0, none⟩) (q :: tl).length cw] 22)) v1.heap.size (.slice (some ⟨g, 0, none⟩) (q :: tl).length cw))
     have HST := Zz.mk (hst1.below (ExtQ.cellsBelow _ (.cells #[.slice (some ⟨g, 0, none⟩) (q :: tl).length cw] 22)))
     rw [List.length_cons] at HAR hcw
     obtain ⟨r0, r1, r2, r3⟩ := cls4 HAR.out.pl
     clear hR hst1
     clear hb)
  | (go_at_call 24
     with_reducible refine (ch.out _ HAR.out.hb).mono ?_
     rintro e v2 ⟨rfl, hb⟩
     replace HST := Zz.mk (HST.out.below hb)
     replace HAR := Zz.mk (HAR.out.below hb)
     clear hb)
  | (go_at_call 33
     with_reducible refine (cr.out _).mono ?_
     rintro e v3 ⟨rfl, hb⟩
     replace HST := Zz.mk ((HST.out.below hb).below (ExtQ.cellsBelow v3 (.cells rowC 60)))
     replace HAR := Zz.mk ((HAR.out.below hb).below (ExtQ.cellsBelow v3 (.cells rowC 60)))
     clear hb)
  | (go_at_call 34
     have hx1 : (v3.alloc (.cells rowC 60)).cell? ⟨v1.heap.size, 0, none⟩ = some (.slice (some ⟨g, 0, none⟩) (tl.length + 1) cw) := blk_cell HAR.out.wx 0
     with_reducible refine (ci.out _ v3.heap.size v1.heap.size g 0 (tl.length + 1) cw (heap_alloc_new v3 _) hx1 (by omega) HST.out.head).mono ?_
     rintro e v4 ⟨rfl, hb⟩
     clear hx1
     replace HST := Zz.mk (HST.out.below hb)
     replace HAR := Zz.mk (HAR.out.below hb)
     clear hb hst
     have wt := words_tail g tl.length cw hcw
     have HST2 := Zz.mk (words_left v4 g cw q tl hcw HST.out)
     clear HST
     obtain ⟨G, hG⟩ : ∃ G : Addr, (if cw = 1 then ⟨g, 0, none⟩ else ⟨g, 1, none⟩) = G := ⟨_, rfl⟩
     rw [hG] at wt HST2
     clear hG
     have HAC := Zz.mk (heap_alloc_new v4 (.cells #[.int .i64 d, .int .i64 0, .int .i64 0, .int .i64 0, .slice none 0 0, .int .u32 0, .int .u32 0, .int .u32 0, .int .u64 0, .int .u64 0, .int .i64 0, .slice none 0 0, .slice none 0 0] 34))
     have HA2 := Zz.mk (HAR.out.below (ExtQ.cellsBelow v4 (.cells #[.int .i64 d, .int .i64 0, .int .i64 0, .int .i64 0, .slice none 0 0, .int .u32 0, .int .u32 0, .int .u32 0, .int .u64 0, .int .u64 0, .int .i64 0, .slice none 0 0, .slice none 0 0] 34)))
     obtain ⟨r0, r1, r2, r3⟩ := cls4 HA2.out.pl
     have rx := blk_cell HA2.out.wx 0
     have has := fun w => ExtQ.act_store w #[.int .i64 0, .int .i64 0, .int .i64 0, .int .i64 0, .slice none 0 0, .int .u32 0, .int .u32 0, .int .u32 0, .int .u64 0, .int .u64 0, .int .i64 0, .slice none 0 0, .slice none 0 0] #[.int .i64 d, .int .i64 0, .int .i64 0, .int .i64 0, .slice none 0 0, .int .u32 0, .int .u32 0, .int .u32 0, .int .u64 0, .int .u64 0, .int .i64 0, .slice none 0 0, .slice none 0 0] rfl rfl (by simp [Value.oneCell']))
  | fail)
 go_region
 have HAB0 := Zz.mk (AB.start HAR.out (d := d) HST2.out (show tl.length <= cw - 1 by omega) ht1)
 clear HAR HST2 HAC HA2 r0 r1 r2 r3 rx wt has
 go_wp2_with (first
  | (go_at_call 36
     with_reducible refine (cs.out _).mono ?_
     rintro e v6 ⟨rfl, hb⟩
     have HGT : Zz (v4.heap.size + 1 < v6.heap.size) := ⟨by obtain ⟨_, _, h1, _⟩ := (HAB0.out.below hb).rd.out; exact (Array.getElem?_eq_some_iff.1 h1).1⟩
     have HAB1 := Zz.mk (HAB0.out.below hb)
     clear hb)
  | fail)
 go_loopw [13] (fun v13 wr => ∃ (pos : Nat) (x : Act) (l : List ByteArray) (u4 u11 u12 : Value), pos <= hz.size /\ wr.heap[v6.heap.size]? = some (.stringIter hz pos) /\ Zz (X = (putsS p.f2 (hz.data.toList.drop pos) (x, l)).1) /\ Zz (∀ s ∈ l, s.size <= 1073741824) /\ Zz (AB p B2 d2 B3 d3 w wr v4.heap.size (v4.heap.size + 1) l x u4 u11 u12)) (fun _ wr => hz.size - wr.iterPos v6.heap.size)
 case atStart => exact ⟨0, _, tl, _, _, _, by omega, iter_new v6 hz, ⟨HQ.out⟩, HZS, ⟨HAB1.out.below ((Below.refl _ _).alloc (Nat.le_refl _) _)⟩⟩
 case round =>
  clear HAB0 HAB1 HQ HZS
  obtain ⟨pos, x, l, u4, u11, u12, hpl, hit, HQ, HZS, HAB⟩ := hrel
  by_cases hp : pos < hz.size
  · have hnx := fun ty => Lib.run_next_ascii_at (P := Tryz.prog) wr v6.heap.size hz pos ty hit hp (ca.out pos hp)
    have HQ1 := HQ.out
    rw [row_drop hz pos hp] at HQ1
    have hmem : hz[pos] ∈ lets := cl.out _ (by rw [List.mem_iff_getElem]; exact ⟨pos, by rw [Array.length_toList]; exact hp, rfl⟩)
    have HI := Zz.mk (Lib.iterAt_heap wr v6.heap.size hz pos (pos + 1) hit)
    replace HAB := Zz.mk (HAB.out.iter hit HGT.out (pos + 1))
    have HMM : Zz (hz.size - (pos + 1) < hz.size - wr.iterPos v6.heap.size) := ⟨by rw [iterPos_of hit]; omega⟩
    clear HQ
    generalize hz[pos] = c at *
    have HQ := Zz.mk (show X = (putsS p.f2 (hz.data.toList.drop (pos + 1)) (putS p.f2 ((c.toNat : Nat) : Int) l x)).1 from HQ1)
    clear HQ1
    have HZ2 := Zz.mk (fun s h => HZS.out s (putS_sub p.f2 ((c.toNat : Nat) : Int) l x s h))
    generalize wr.iterAt v6.heap.size hz (pos + 1) = wi at *
    have cS := Lib.hid (cv.out wi v4.heap.size (v4.heap.size + 1) l x u4 u11 u12 HAB.out HZS.out c hmem)
    clear hmem HZS
    generalize putS p.f2 ((c.toNat : Nat) : Int) l x = y at *
    go_wp2_with (first
     | (go_at_call 38
        with_reducible refine cS.out.mono ?_
        rintro e v7 ⟨v, rfl, hg, hy⟩
        have HI7 := Zz.mk (ExtQ.row_step HI.out hg (by have := HGT.out; omega))
        unfold Ready at hy
        have cP := Lib.hid hy
        clear hg hy)
     | (go_at_call 37
        with_reducible refine cP.out.mono ?_
        rintro e v8 ⟨rfl, hg, u4', u11', u12', hAB⟩
        have HI8 := Zz.mk (ExtQ.row_step HI7.out hg (by have := HGT.out; omega))
        have HAB8 := Zz.mk hAB
        clear hg hAB)
     | fail)
    go_roundw
    case rel => exact ⟨pos + 1, y.1, y.2, u4', u11', u12', by omega, HI8.out, HQ, HZ2, HAB8⟩
    case measure => rw [iterPos_of HI8.out]; exact HMM.out
  · have hnx := fun ty => Lib.run_next_end_at (P := Tryz.prog) wr v6.heap.size hz pos ty hit hp
    obtain rfl : X = x := by
     have := HQ.out
     rw [List.drop_of_length_le (by rw [Array.length_toList]; show hz.size <= pos; omega)] at this
     exact this
    clear HQ HZS
    obtain ⟨q0, q1, q2, q3, q4, q5, q6, q7, q8, q9, q10, q11, q12⟩ := cls13 HAB.out.ac
    obtain ⟨r0, r1, r2, r3⟩ := cls4 HAB.out.pl
    cases M with
    | false =>
      obtain rfl : r = none := by rw [<- HR.out, if_neg (by simp)]
      clear HR cn
      go_wp2_with (first
       | (go_at_call 25
          with_reducible refine (cm.out _ HAB.out.hb _ HAB.out.act).mono ?_
          rintro e v9 ⟨rfl, hb⟩
          replace HAB := Zz.mk (HAB.out.below hb)
          clear hb
          obtain ⟨q0, q1, q2, q3, q4, q5, q6, q7, q8, q9, q10, q11, q12⟩ := cls13 HAB.out.ac
          have r0 := blk_cell HAB.out.pl 0
          have r1 := blk_cell HAB.out.pl 1
          have r2 := blk_cell HAB.out.pl 2
          have r3 := blk_cell HAB.out.pl 3)
       | (go_at_call 26
          with_reducible refine (cn.out _ HAB.out.hb _ HAB.out.act).mono ?_
          rintro e v10 ⟨rfl, hb⟩
          replace HAB := Zz.mk (HAB.out.below hb)
          clear hb
          obtain ⟨q0, q1, q2, q3, q4, q5, q6, q7, q8, q9, q10, q11, q12⟩ := cls13 HAB.out.ac
          have r0 := blk_cell HAB.out.pl 0
          have r1 := blk_cell HAB.out.pl 1
          have r2 := blk_cell HAB.out.pl 2
          have r3 := blk_cell HAB.out.pl 3)
       | (refine wpList_store_row rfl 34 (.tmp 4) (.tmp 63) rfl (w.heap.size + 1) #[.int .i64 0, .int .i64 0, .int .i64 0, .int .i64 0, .slice none 0 0, .int .u32 0, .int .u32 0, .int .u32 0, .int .u64 0, .int .u64 0, .int .i64 0, .slice none 0 0, .slice none 0 0] rfl rfl 34 _ HAB.out.rs actC_info2 rfl (by first | exact HAB.out.ones | simp [Value.oneCell']) ?_)
       | fail)
      refine bodyPost_ret (v := .tuple #[.agg #[.int .i64 0, .int .i64 0, .int .i64 0, .int .i64 0, .slice none 0 0, .int .u32 0, .int .u32 0, .int .u32 0, .int .u64 0, .int .u64 0, .int .i64 0, .slice none 0 0, .slice none 0 0], .int .i64 270]) (ExtQ.results_cell2 Tryz.results13 _ _ _ (w.heap.size + 1) rfl _ (.int .i64 270) (run_loadVar_row _ (w.heap.size + 1) 34 34 _ (0, 0) _ (setRow_heap _ _ _ _ _ _ HAB.out.rs) Tryz.underlying34 rfl actC_info2) rfl) rfl ?_
      exact ⟨⟨_, rfl, K_zero _⟩, below_setRow HAB.out.hb (by omega) _⟩
    | true =>
      replace cn := Lib.hid (cn.out rfl)
      by_cases hlt : Ln = t
      · obtain rfl : r = some X := by rw [<- HR.out, if_pos ⟨rfl, hlt⟩]
        obtain rfl := hlt
        clear HR
        go_wp2_with (first
         | (go_at_call 25
            with_reducible refine (cm.out _ HAB.out.hb _ HAB.out.act).mono ?_
            rintro e v9 ⟨rfl, hb⟩
            replace HAB := Zz.mk (HAB.out.below hb)
            clear hb
            obtain ⟨q0, q1, q2, q3, q4, q5, q6, q7, q8, q9, q10, q11, q12⟩ := cls13 HAB.out.ac
            have r0 := blk_cell HAB.out.pl 0
            have r1 := blk_cell HAB.out.pl 1
            have r2 := blk_cell HAB.out.pl 2
            have r3 := blk_cell HAB.out.pl 3)
         | (go_at_call 26
            with_reducible refine (cn.out _ HAB.out.hb _ HAB.out.act).mono ?_
            rintro e v10 ⟨rfl, hb⟩
            replace HAB := Zz.mk (HAB.out.below hb)
            clear hb
            obtain ⟨q0, q1, q2, q3, q4, q5, q6, q7, q8, q9, q10, q11, q12⟩ := cls13 HAB.out.ac
            have r0 := blk_cell HAB.out.pl 0
            have r1 := blk_cell HAB.out.pl 1
            have r2 := blk_cell HAB.out.pl 2
            have r3 := blk_cell HAB.out.pl 3)
         | (refine wpList_store_row rfl 34 (.tmp 4) (.tmp 64) rfl (w.heap.size + 1) #[.int .i64 X.f0, .int .i64 X.f1, .int .i64 X.f2, .int .i64 X.f3, u4, .int .u32 X.f5, .int .u32 X.f6, .int .u32 X.f7, .int .u64 X.f8.f0, .int .u64 X.f8.f1, .int .i64 X.f9, u11, u12] rfl rfl 34 _ HAB.out.rs actC_info2 rfl (by first | exact HAB.out.ones | simp [Value.oneCell']) ?_)
         | fail)
        refine bodyPost_ret (v := .tuple #[.agg #[.int .i64 X.f0, .int .i64 X.f1, .int .i64 X.f2, .int .i64 X.f3, u4, .int .u32 X.f5, .int .u32 X.f6, .int .u32 X.f7, .int .u64 X.f8.f0, .int .u64 X.f8.f1, .int .i64 X.f9, u11, u12], .int .i64 0]) (ExtQ.results_cell2 Tryz.results13 _ _ _ (w.heap.size + 1) rfl _ (.int .i64 0) (run_loadVar_row _ (w.heap.size + 1) 34 34 _ (0, 0) _ (setRow_heap _ _ _ _ _ _ HAB.out.rs) Tryz.underlying34 rfl actC_info2) rfl) rfl ?_
        exact ⟨⟨_, rfl, HAB.out.actR _⟩, below_setRow HAB.out.hb (by omega) _⟩
      · obtain rfl : r = none := by rw [<- HR.out, if_neg (by simp [hlt])]
        have hl2 : (Ln.toList == t.toList) = false := str_ne hlt
        clear HR
        go_wp2_with (first
         | (go_at_call 25
            with_reducible refine (cm.out _ HAB.out.hb _ HAB.out.act).mono ?_
            rintro e v9 ⟨rfl, hb⟩
            replace HAB := Zz.mk (HAB.out.below hb)
            clear hb
            obtain ⟨q0, q1, q2, q3, q4, q5, q6, q7, q8, q9, q10, q11, q12⟩ := cls13 HAB.out.ac
            have r0 := blk_cell HAB.out.pl 0
            have r1 := blk_cell HAB.out.pl 1
            have r2 := blk_cell HAB.out.pl 2
            have r3 := blk_cell HAB.out.pl 3)
         | (go_at_call 26
            with_reducible refine (cn.out _ HAB.out.hb _ HAB.out.act).mono ?_
            rintro e v10 ⟨rfl, hb⟩
            replace HAB := Zz.mk (HAB.out.below hb)
            clear hb
            obtain ⟨q0, q1, q2, q3, q4, q5, q6, q7, q8, q9, q10, q11, q12⟩ := cls13 HAB.out.ac
            have r0 := blk_cell HAB.out.pl 0
            have r1 := blk_cell HAB.out.pl 1
            have r2 := blk_cell HAB.out.pl 2
            have r3 := blk_cell HAB.out.pl 3)
         | (refine wpList_store_row rfl 34 (.tmp 4) (.tmp 63) rfl (w.heap.size + 1) #[.int .i64 0, .int .i64 0, .int .i64 0, .int .i64 0, .slice none 0 0, .int .u32 0, .int .u32 0, .int .u32 0, .int .u64 0, .int .u64 0, .int .i64 0, .slice none 0 0, .slice none 0 0] rfl rfl 34 _ HAB.out.rs actC_info2 rfl (by first | exact HAB.out.ones | simp [Value.oneCell']) ?_)
         | fail)
        refine bodyPost_ret (v := .tuple #[.agg #[.int .i64 0, .int .i64 0, .int .i64 0, .int .i64 0, .slice none 0 0, .int .u32 0, .int .u32 0, .int .u32 0, .int .u64 0, .int .u64 0, .int .i64 0, .slice none 0 0, .slice none 0 0], .int .i64 270]) (ExtQ.results_cell2 Tryz.results13 _ _ _ (w.heap.size + 1) rfl _ (.int .i64 270) (run_loadVar_row _ (w.heap.size + 1) 34 34 _ (0, 0) _ (setRow_heap _ _ _ _ _ _ HAB.out.rs) Tryz.underlying34 rfl actC_info2) rfl) rfl ?_
        exact ⟨⟨_, rfl, K_zero _⟩, below_setRow HAB.out.hb (by omega) _⟩
theorem c_Act (p : Plan) (cp : List Value) (t : ByteArray) (w : World) (hP : k25.K w p cp) (hp : PlanBd p) (hs : t.size <= 1073741824) (hT : Lib.Utf8Tabs 1 2 w) (hnm : ∀ i, (p.f2.getD i ByteArray.empty).size <= 1048576) :
 Calls Tryz.prog 13 #[.agg cp.toArray, .string t] w (ActP (actS p t) w) := by
 unfold actS
 cases hw : ExtQ.wordsS t with
 | none => exact act_nw p cp t w hP hp hs hw
 | some ws =>
   simp only
   cases hh : headedS p.f0 p.f1 p.f2 with
   | false =>
     rw [if_neg (fun h => (by cases h.1))]
     exact act_nh p cp t w hP hp hs ws hw hh
   | true =>
     cases ws with
     | nil => exact absurd rfl (words_small hw).1
     | cons q tl =>
       by_cases hr : ExtQ.rowI q < 1
       · rw [if_neg (fun h => (by have := h.2.1; simp only [List.headD_cons] at this; omega))]
         exact act_norow p cp t w hP hp hs q tl hw hh hr
       · have key := act_go p cp t w hP hp hs hT hnm q tl hw hh hr
         by_cases hc : mayS p.f2.length (readS p.f2 (q :: tl)) = true /\ lineB p.f2 (readS p.f2 (q :: tl)) = t
         · rw [if_pos hc] at key
           rw [if_pos ⟨rfl, (by simp only [List.headD_cons]; omega), hc.1, hc.2⟩]
           exact key
         · rw [if_neg hc] at key
           rw [if_neg (fun h => hc ⟨h.2.2.1, h.2.2.2⟩)]
           exact key
theorem num_back (n : Int) (h0 : 0 <= n) (h1 : n < 18446744073709551616) : ExtQ.numOf (decS (IntKind.u64.wrap n)) = n := by
 have hw : IntKind.u64.wrap n = n := by rw [IntKind.wrap_u64]; omega
 unfold ExtQ.numOf decS
 rw [hw, num_dec n.toNat (by omega)]
 show ((n.toNat : Nat) : Int) = n
 omega
theorem num_back0 (n : Int) (h0 : 0 <= n) (h1 : n < 18446744073709551616) : ExtQ.numOf (decS n) = n := by
 have := num_back n h0 h1
 rwa [show IntKind.u64.wrap n = n by rw [IntKind.wrap_u64]; omega] at this
theorem hex_back (l : List Int) (h : Bytes l) : (unhexS (strOfNums (hexS l))).1 = l := by rw [unhex_hex l h]
theorem bytesOf_strOfNums (l : List Int) (h : Bytes l) : bytesOf (strOfNums l) = l := by
 unfold bytesOf
 rw [strOfNums_data, List.map_map]
 conv => rhs; rw [<- List.map_id l]
 apply List.map_congr_left
 intro x hx
 have := h x hx
 show ((UInt8.ofNat x.toNat).toNat : Int) = x
 rw [UInt8.toNat_ofNat']
 omega
theorem msg_back (l : List Int) (h : Bytes l) : bytesOf (unqS (quoteS (strOfNums l))).1 = l := by rw [unq_quote]; exact bytesOf_strOfNums l h
theorem quoteS_inj {a b : ByteArray} (h : quoteS a = quoteS b) : a = b := by
 have h1 := unq_quote a
 rw [h, unq_quote b] at h1
 exact (congrArg Prod.fst h1).symm
theorem names_uniq {nl : List ByteArray} (h : namesOk nl nl.length = true) (i j : Nat) (hi : i < nl.length) (hj : j < i) : nl.getD j ByteArray.empty ≠ nl.getD i ByteArray.empty := by
 unfold namesOk at h
 rw [List.all_eq_true] at h
 have h1 := h i (by rw [List.mem_range]; exact hi)
 simp only [Bool.and_eq_true, Bool.not_eq_true'] at h1
 have h2 := h1.2
 unfold hasStr at h2
 rw [decide_eq_false_iff_not] at h2
 intro he
 apply h2
 unfold idxS
 apply List.findIdx_lt_length_of_exists
 refine ⟨nl.getD j ByteArray.empty, ?_, decide_eq_true he⟩
 rw [List.getD_eq_getElem?_getD, List.getElem?_eq_getElem (show j < nl.length by omega)]
 exact List.mem_iff_getElem.2 ⟨j, by rw [List.length_take]; omega, by rw [List.getElem_take]; rfl⟩
theorem name_back (nl : List ByteArray) (h : namesOk nl nl.length = true) (d : Int) (h0 : 0 <= d) (h1 : d < (nl.length : Int)) : ExtQ.nameI nl (quoteS (nl.getD d.toNat ByteArray.empty)) = d := by
 have hi : ExtQ.nameIx nl (quoteS (nl.getD d.toNat ByteArray.empty)) = d.toNat :=
  ExtQ.nameIx_hit nl _ d.toNat (by omega) rfl (fun j hj he => names_uniq h d.toNat j (by omega) hj (quoteS_inj he))
 unfold ExtQ.nameI
 rw [hi, if_pos (by omega)]
 omega
theorem marks_ascii (s : ByteArray) (h : ∀ i, i < s.size -> (s.data.toList.getD i 0).toNat < 128) : ∀ f pos, s.size <= pos + f -> ExtQ.marksOf (rns s f pos) = (s.data.toList.drop pos).map (fun b => decide (b = 43)) := by
 have hl : s.data.toList.length = s.size := by rw [Array.length_toList]; rfl
 intro f
 induction f with
 | zero => intro pos hf; rw [List.drop_of_length_le (by omega)]; rfl
 | succ f ih =>
   intro pos hf
   unfold rns
   by_cases hp : pos < s.size
   · have h0 := h pos hp
     have hd : Utf8.decode s pos = ((s.data.toList.getD pos 0).toNat, 1) := by
      rw [Lib.decode_N]
      exact Lib.decodeN_ascii _ _ _ _ _ h0
     rw [if_pos hp, hd]
     have hc : s.data.toList.drop pos = s.data.toList.getD pos 0 :: s.data.toList.drop (pos + 1) := by
      rw [List.drop_eq_getElem_cons (by omega), List.getD_eq_getElem?_getD, List.getElem?_eq_getElem (by omega)]
      rfl
     rw [hc, List.map_cons, <- ih (pos + 1) (by omega)]
     show decide ((s.data.toList.getD pos 0).toNat = 43) :: _ = _
     congr 1
     rw [decide_eq_decide]
     constructor
     · intro e
       exact UInt8.toNat_inj.1 e
     · intro e
       rw [e]
       rfl
   · rw [if_neg hp, List.drop_of_length_le (by omega)]
     rfl
theorem pick_back (l : List Bool) : ExtQ.pickOf (pickS l) = l := by
 cases l with
 | nil => decide +kernel
 | cons b t =>
   have ht : ExtQ.trimDot (pickS (b :: t)) = pickS (b :: t) := by
    unfold ExtQ.trimDot pickS pickL
    cases b <;> rfl
   unfold ExtQ.pickOf runesOf
   rw [ht]
   have hd : (pickS (b :: t)).data.toList = (b :: t).map markB := rfl
   rw [marks_ascii _ _ _ 0 (by omega), hd, List.drop_zero, List.map_map]
   · conv => rhs; rw [<- List.map_id (b :: t)]
     apply List.map_congr_left
     intro x _
     cases x <;> rfl
   · intro i hi
     rw [hd, List.getD_eq_getElem?_getD, List.getElem?_map]
     cases (b :: t)[i]? with
     | none => decide
     | some x => cases x <;> decide
theorem row_back : ∀ n : Fin 18, 1 <= n.val -> ExtQ.rowI (rowOf (n.val : Int)).1 = (n.val : Int) := by decide +kernel
theorem act_ext {x y : Act} (h0 : x.f0 = y.f0) (h1 : x.f1 = y.f1) (h2 : x.f2 = y.f2) (h3 : x.f3 = y.f3) (h4 : x.f4 = y.f4) (h5 : x.f5 = y.f5) (h6 : x.f6 = y.f6) (h7 : x.f7 = y.f7) (h8 : x.f8 = y.f8) (h9 : x.f9 = y.f9) (h10 : x.f10 = y.f10) (h11 : x.f11 = y.f11) : x = y := by
 cases x; cases y
 simp only at h0 h1 h2 h3 h4 h5 h6 h7 h8 h9 h10 h11
 subst h0 h1 h2 h3 h4 h5 h6 h7 h8 h9 h10 h11
 rfl
def hssB : ByteArray := ⟨#[104, 115, 115]⟩
def wordsOf (l : List ByteArray) (x : Act) (c : Int) : List ByteArray :=
 if c = 114 then [decS x.f8.f0, decS x.f8.f1] else if c = 115 then (if x.f3 = 2 then [xmssB, ExtP.nameS 3 x.f5] else hssB :: x.f4.map lvB) else [sayB l x c]
def lineW (l : List ByteArray) (x : Act) : List ByteArray := (rowOf x.f0).1 :: (rowOf x.f0).2.data.toList.flatMap fun c => wordsOf l x ((c.toNat : Nat) : Int)
structure Fits (nl : List ByteArray) (x : Act) : Prop where
 d : ExtQ.nameI nl (quoteS (nl.getD x.f1.toNat ByteArray.empty)) = x.f1
 t : ExtQ.nameI nl (quoteS (nl.getD x.f2.toNat ByteArray.empty)) = x.f2
 k : min (ExtQ.numOf (decS (IntKind.u64.wrap x.f6))) 4294967295 = x.f6
 i : min (ExtQ.numOf (decS (IntKind.u64.wrap x.f7))) 4294967295 = x.f7
 n : min (ExtQ.numOf (decS (IntKind.u64.wrap x.f9))) 2147483648 = x.f9
 w : (unhexS (strOfNums (hexS x.f10))).1 = x.f10
 m : bytesOf (unqS (quoteS (strOfNums x.f10))).1 = x.f10
 r : (⟨ExtQ.numOf (decS x.f8.f0), ExtQ.numOf (decS x.f8.f1)⟩ : S30) = x.f8
 p : ExtQ.pickOf (pickS x.f11) = x.f11
 s : hasS x.f0 115 = true -> ((setsR (wordsOf nl x 115)).1 = x.f3 /\ (setsR (wordsOf nl x 115)).2.1 = x.f4 /\ (setsR (wordsOf nl x 115)).2.2 = x.f5)
 zd : hasS x.f0 100 = false -> x.f1 = 0
 zt : hasS x.f0 116 = false -> x.f2 = 0
 zk : hasS x.f0 107 = false -> x.f6 = 0
 zi : hasS x.f0 105 = false -> x.f7 = 0
 zr : hasS x.f0 114 = false -> x.f8 = ⟨0, 0⟩
 zn : hasS x.f0 98 = false -> hasS x.f0 110 = false -> x.f9 = 0
 zw : hasS x.f0 119 = false -> hasS x.f0 109 = false -> hasS x.f0 120 = false -> x.f10 = []
 zs : hasS x.f0 115 = false -> x.f3 = 0 /\ x.f4 = [] /\ x.f5 = 0
 zp : hasS x.f0 112 = false -> x.f11 = []
theorem puts_nil (nl : List ByteArray) (s : Act × List ByteArray) : putsS nl [] s = s := rfl
theorem puts_cons (nl : List ByteArray) (c : UInt8) (cs : List UInt8) (a : Act) (l : List ByteArray) : putsS nl (c :: cs) (a, l) = putsS nl cs (putS nl ((c.toNat : Nat) : Int) l a) := rfl
theorem back_any (nl : List ByteArray) (x : Act) (F : Fits nl x) (h1 : 1 <= x.f0) (h2 : x.f0 <= 17) : readS nl (lineW nl x) = x := by
 obtain hf | hf | hf | hf | hf | hf | hf | hf | hf | hf | hf | hf | hf | hf | hf | hf | hf : x.f0 = 1 \/ x.f0 = 2 \/ x.f0 = 3 \/ x.f0 = 4 \/ x.f0 = 5 \/ x.f0 = 6 \/ x.f0 = 7 \/ x.f0 = 8 \/ x.f0 = 9 \/ x.f0 = 10 \/ x.f0 = 11 \/ x.f0 = 12 \/ x.f0 = 13 \/ x.f0 = 14 \/ x.f0 = 15 \/ x.f0 = 16 \/ x.f0 = 17 := by omega
 all_goals
  clear h1 h2
  have e2 : ExtQ.rowI (rowOf x.f0).1 = x.f0 := by rw [hf]; decide +kernel
  first
   | (have e1 : (rowOf x.f0).2.data.toList = [100, 119] := by rw [hf]; decide +kernel
      have e3 : lineW nl x = (rowOf x.f0).1 :: ((quoteS (nl.getD x.f1.toNat ByteArray.empty)) :: (strOfNums (hexS x.f10)) :: []) := by
       unfold lineW
       rw [e1]
       simp only [List.flatMap_cons, List.flatMap_nil]
       simp [wordsOf, sayB])
   | (have e1 : (rowOf x.f0).2.data.toList = [100, 115] := by rw [hf]; decide +kernel
      have e3 : lineW nl x = (rowOf x.f0).1 :: ((quoteS (nl.getD x.f1.toNat ByteArray.empty)) :: wordsOf nl x 115) := by
       unfold lineW
       rw [e1]
       simp only [List.flatMap_cons, List.flatMap_nil]
       simp [wordsOf, sayB])
   | (have e1 : (rowOf x.f0).2.data.toList = [100, 107, 109] := by rw [hf]; decide +kernel
      have e3 : lineW nl x = (rowOf x.f0).1 :: ((quoteS (nl.getD x.f1.toNat ByteArray.empty)) :: (decS (IntKind.u64.wrap x.f6)) :: (quoteS (strOfNums x.f10)) :: []) := by
       unfold lineW
       rw [e1]
       simp only [List.flatMap_cons, List.flatMap_nil]
       simp [wordsOf, sayB])
   | (have e1 : (rowOf x.f0).2.data.toList = [100, 107, 116, 114] := by rw [hf]; decide +kernel
      have e3 : lineW nl x = (rowOf x.f0).1 :: ((quoteS (nl.getD x.f1.toNat ByteArray.empty)) :: (decS (IntKind.u64.wrap x.f6)) :: (quoteS (nl.getD x.f2.toNat ByteArray.empty)) :: (decS x.f8.f0) :: (decS x.f8.f1) :: []) := by
       unfold lineW
       rw [e1]
       simp only [List.flatMap_cons, List.flatMap_nil]
       simp [wordsOf, sayB])
   | (have e1 : (rowOf x.f0).2.data.toList = [100, 107, 116, 98] := by rw [hf]; decide +kernel
      have e3 : lineW nl x = (rowOf x.f0).1 :: ((quoteS (nl.getD x.f1.toNat ByteArray.empty)) :: (decS (IntKind.u64.wrap x.f6)) :: (quoteS (nl.getD x.f2.toNat ByteArray.empty)) :: (decS (IntKind.u64.wrap x.f9)) :: []) := by
       unfold lineW
       rw [e1]
       simp only [List.flatMap_cons, List.flatMap_nil]
       simp [wordsOf, sayB])
   | (have e1 : (rowOf x.f0).2.data.toList = [100, 105] := by rw [hf]; decide +kernel
      have e3 : lineW nl x = (rowOf x.f0).1 :: ((quoteS (nl.getD x.f1.toNat ByteArray.empty)) :: (decS (IntKind.u64.wrap x.f7)) :: []) := by
       unfold lineW
       rw [e1]
       simp only [List.flatMap_cons, List.flatMap_nil]
       simp [wordsOf, sayB])
   | (have e1 : (rowOf x.f0).2.data.toList = [100, 107] := by rw [hf]; decide +kernel
      have e3 : lineW nl x = (rowOf x.f0).1 :: ((quoteS (nl.getD x.f1.toNat ByteArray.empty)) :: (decS (IntKind.u64.wrap x.f6)) :: []) := by
       unfold lineW
       rw [e1]
       simp only [List.flatMap_cons, List.flatMap_nil]
       simp [wordsOf, sayB])
   | (have e1 : (rowOf x.f0).2.data.toList = [100] := by rw [hf]; decide +kernel
      have e3 : lineW nl x = (rowOf x.f0).1 :: ((quoteS (nl.getD x.f1.toNat ByteArray.empty)) :: []) := by
       unfold lineW
       rw [e1]
       simp only [List.flatMap_cons, List.flatMap_nil]
       simp [wordsOf, sayB])
   | (have e1 : (rowOf x.f0).2.data.toList = [110] := by rw [hf]; decide +kernel
      have e3 : lineW nl x = (rowOf x.f0).1 :: ((decS (IntKind.u64.wrap x.f9)) :: []) := by
       unfold lineW
       rw [e1]
       simp only [List.flatMap_cons, List.flatMap_nil]
       simp [wordsOf, sayB])
   | (have e1 : (rowOf x.f0).2.data.toList = [100, 120] := by rw [hf]; decide +kernel
      have e3 : lineW nl x = (rowOf x.f0).1 :: ((quoteS (nl.getD x.f1.toNat ByteArray.empty)) :: (strOfNums (hexS x.f10)) :: []) := by
       unfold lineW
       rw [e1]
       simp only [List.flatMap_cons, List.flatMap_nil]
       simp [wordsOf, sayB])
   | (have e1 : (rowOf x.f0).2.data.toList = [100, 110] := by rw [hf]; decide +kernel
      have e3 : lineW nl x = (rowOf x.f0).1 :: ((quoteS (nl.getD x.f1.toNat ByteArray.empty)) :: (decS (IntKind.u64.wrap x.f9)) :: []) := by
       unfold lineW
       rw [e1]
       simp only [List.flatMap_cons, List.flatMap_nil]
       simp [wordsOf, sayB])
   | (have e1 : (rowOf x.f0).2.data.toList = [100, 112] := by rw [hf]; decide +kernel
      have e3 : lineW nl x = (rowOf x.f0).1 :: ((quoteS (nl.getD x.f1.toNat ByteArray.empty)) :: (pickS x.f11) :: []) := by
       unfold lineW
       rw [e1]
       simp only [List.flatMap_cons, List.flatMap_nil]
       simp [wordsOf, sayB])
  rw [e3]
  unfold readS
  rw [List.headD_cons, List.tail_cons, e2, e1]
  simp only [puts_cons, puts_nil, puts_b, puts_d, puts_i, puts_k, puts_m, puts_n, puts_p, puts_r, puts_s, puts_t, puts_w, puts_x, List.headD_cons, List.tail_cons]
  symm
  exact act_ext rfl (by first | exact F.zd (by rw [hf]; decide +kernel) | exact F.d.symm)
   (by first | exact F.zt (by rw [hf]; decide +kernel) | exact F.t.symm)
   (by first | exact (F.zs (by rw [hf]; decide +kernel)).1 | exact (F.s (by rw [hf]; decide +kernel)).1.symm)
   (by first | exact (F.zs (by rw [hf]; decide +kernel)).2.1 | exact (F.s (by rw [hf]; decide +kernel)).2.1.symm)
   (by first | exact (F.zs (by rw [hf]; decide +kernel)).2.2 | exact (F.s (by rw [hf]; decide +kernel)).2.2.symm)
   (by first | exact F.zk (by rw [hf]; decide +kernel) | exact F.k.symm)
   (by first | exact F.zi (by rw [hf]; decide +kernel) | exact F.i.symm)
   (by first | exact F.zr (by rw [hf]; decide +kernel) | exact F.r.symm)
   (by first | exact F.zn (by rw [hf]; decide +kernel) (by rw [hf]; decide +kernel) | exact F.n.symm)
   (by first | exact F.zw (by rw [hf]; decide +kernel) (by rw [hf]; decide +kernel) (by rw [hf]; decide +kernel) | exact F.w.symm | exact F.m.symm)
   (by first | exact F.zp (by rw [hf]; decide +kernel) | exact F.p.symm)
def dl (l : List ByteArray) : List (List UInt8) := l.map fun s => s.data.toList
theorem dl_append (a b : List ByteArray) : dl (a ++ b) = dl a ++ dl b := List.map_append
theorem strB_dl (l : List ByteArray) : (dl l).map ExtQ.strB = l := by
 unfold dl
 rw [List.map_map]
 conv => rhs; rw [<- List.map_id l]
 apply List.map_congr_left
 intro s _
 rfl
theorem may_facts {nl : List ByteArray} {x : Act} (hx : ActOk x) (hm : mayS nl.length x = true) :
 (0 <= x.f1 /\ x.f1 < (nl.length : Int)) /\ (0 <= x.f2 /\ x.f2 < (nl.length : Int)) /\ (hasS x.f0 100 = false -> x.f1 = 0) /\ (hasS x.f0 116 = false -> x.f2 = 0) /\ (hasS x.f0 107 = false -> x.f6 = 0) /\ (hasS x.f0 105 = false -> x.f7 = 0) /\ (hasS x.f0 114 = false -> x.f8.f0 = 0 /\ x.f8.f1 = 0) /\
 numberR x.f0 x.f9 = true /\ dataR x.f0 x.f10.length = true /\ keyedS x = true /\ (hasS x.f0 112 = false -> x.f11 = []) /\ (1 <= x.f0 /\ x.f0 < 18) := by
 have h := hm
 rw [may_eq] at h
 unfold mayR b4R b5R at h
 simp only [Bool.and_eq_true, Bool.not_eq_true', Bool.or_eq_false_iff, decide_eq_false_iff_not, Bool.and_eq_false_iff, Bool.not_eq_false', bne_eq_false_iff_eq, Bool.or_eq_true, decide_eq_true_eq] at h
 obtain ⟨_, hd, hn, _, ⟨a1, a2, a3, a4, a5, a6, a7⟩, ⟨b1, b2, b3, b4⟩, hp⟩ := h
 unfold mayS at hm
 simp only [Bool.and_eq_true] at hm
 have hrow := hm.1
 refine ⟨⟨by omega, by omega⟩, ⟨by omega, by omega⟩, ?_, ?_, ?_, ?_, ?_, hn, hd, hm.2.1, ?_, ?_⟩
 · intro h0; rw [h0] at a3; exact a3.resolve_left (by simp)
 · intro h0; rw [h0] at a6; exact a6.resolve_left (by simp)
 · intro h0; rw [h0] at b1; exact b1.resolve_left (by simp)
 · intro h0; rw [h0] at b2; exact b2.resolve_left (by simp)
 · intro h0
   rw [h0] at b4
   have := b4.resolve_left (by simp)
   simpa using this
 · intro h0
   rcases hp with hp | hp
   · exact List.eq_nil_of_length_eq_zero hp
   · rw [h0] at hp; exact absurd hp.1 (by simp)
 · unfold rowOf at hrow
   by_cases h0 : 0 <= x.f0 /\ x.f0 < 18
   · refine ⟨?_, h0.2⟩
     rcases Int.lt_or_le 0 x.f0 with h9 | h9
     · omega
     · obtain h8 : x.f0 = 0 := by omega
       rw [h8] at hrow
       exact absurd hrow (by decide +kernel)
   · rw [if_neg h0] at hrow
     exact absurd hrow (by decide +kernel)
theorem xms_nm {c : Int} (h : ((xms c).2 == 0) = true) : known 3 c = true := h
theorem sets_back {x : Act} (nl : List ByteArray) (hx : ActOk x) (h : setsS x = true) : (setsR (wordsOf nl x 115)).1 = x.f3 /\ (setsR (wordsOf nl x 115)).2.1 = x.f4 /\ (setsR (wordsOf nl x 115)).2.2 = x.f5 := by
 have hw : wordsOf nl x 115 = if x.f3 = 2 then [xmssB, ExtP.nameS 3 x.f5] else hssB :: x.f4.map lvB := by unfold wordsOf; rw [if_neg (by decide), if_pos rfl]
 rw [hw]
 unfold setsS at h
 by_cases h1 : x.f3 = 1
 · rw [if_pos h1] at h
   simp only [Bool.and_eq_true, beq_iff_eq] at h
   rw [if_neg (by omega)]
   unfold setsR
   rw [List.headD_cons, if_neg (by decide), List.tail_cons]
   refine ⟨h1.symm, ?_, h.1.symm⟩
   show (x.f4.map lvB).map lvOf = x.f4
   rw [List.map_map]
   conv => rhs; rw [<- List.map_id x.f4]
   apply List.map_congr_left
   intro v hv
   have h2 := h.2
   unfold hssS at h2
   simp only [Bool.and_eq_true, List.all_eq_true] at h2
   have h3 := h2.2.2.1 v hv
   unfold lvOk at h3
   simp only [Bool.and_eq_true] at h3
   obtain ⟨i, hi⟩ := List.mem_iff_getElem?.1 hv
   have hb := hx.bd.lv i
   rw [List.getD_eq_getElem?_getD, hi] at hb
   have hk := fit_known v.f0 v.f1 hb.1.1 hb.2.1 h3.1
   exact lvOf_back v hb.1.1 hb.2.1 hk.1 hk.2
 · rw [if_neg h1] at h
   by_cases h2 : x.f3 = 2
   · rw [if_pos h2] at h
     simp only [Bool.and_eq_true, decide_eq_true_eq] at h
     rw [if_pos h2]
     unfold setsR
     rw [List.headD_cons, if_pos rfl, List.tail_cons, List.headD_cons]
     exact ⟨h2.symm, (List.eq_nil_of_length_eq_zero h.2).symm, (nm_back 3 x.f5 hx.bd.xm.1 (xms_nm h.1)).1⟩
   · rw [if_neg h2] at h; cases h
theorem fits {nl : List ByteArray} {x : Act} (hx : ActOk x) (hn : namesOk nl nl.length = true) (hm : mayS nl.length x = true) : Fits nl x := by
 obtain ⟨d, t, zd, zt, zk, zi, zr, nn, dd, ky, zp, _⟩ := may_facts hx hm
 have h6 := hx.ky
 have h7 := hx.td
 have h8 := hx.rg
 unfold u32P at h6 h7
 unfold u64P at h8
 have h9 : 0 <= x.f9 /\ x.f9 <= 1073741824 := by
  unfold numberR at nn
  split at nn
  · simp only [Bool.and_eq_true, decide_eq_true_eq] at nn; omega
  · split at nn
    · simp only [Bool.and_eq_true, decide_eq_true_eq] at nn; omega
    · simp only [decide_eq_true_eq] at nn; omega
 refine ⟨name_back nl hn x.f1 d.1 d.2, name_back nl hn x.f2 t.1 t.2, ?_, ?_, ?_, hex_back _ hx.by_, msg_back _ hx.by_, ?_, pick_back _, ?_, zd, zt, zk, zi, ?_, ?_, ?_, ?_, zp⟩
 · rw [num_back x.f6 (by omega) (by omega)]; omega
 · rw [num_back x.f7 (by omega) (by omega)]; omega
 · rw [num_back x.f9 (by omega) (by omega)]; omega
 · rw [num_back0 x.f8.f0 (by omega) (by omega), num_back0 x.f8.f1 (by omega) (by omega)]
 · intro hs
   unfold keyedS at ky
   rw [if_pos hs] at ky
   exact sets_back nl hx ky
 · intro h0
   have := zr h0
   cases hh : x.f8 with
   | mk a b =>
     rw [hh] at this
     simp only at this
     rw [this.1, this.2]
 · intro h0 h1
   unfold numberR at nn
   rw [if_neg (by rw [h0]; simp), if_neg (by rw [h1]; simp)] at nn
   simpa using nn
 · intro h0 h1 h2
   unfold dataR at dd
   rw [if_neg (by rw [h0]; simp), if_neg (by rw [h1]; simp), if_neg (by rw [h2]; simp)] at dd
   simp only [decide_eq_true_eq] at dd
   exact List.eq_nil_of_length_eq_zero (by omega)
 · intro h0
   unfold keyedS at ky
   rw [if_neg (by rw [h0]; simp)] at ky
   simp only [Bool.and_eq_true, beq_iff_eq, decide_eq_true_eq] at ky
   exact ⟨ky.1, List.eq_nil_of_length_eq_zero ky.2.2, ky.2.1⟩
theorem read_back {nl : List ByteArray} {x : Act} (hx : ActOk x) (hn : namesOk nl nl.length = true) (hm : mayS nl.length x = true) : readS nl (lineW nl x) = x := by
 have F := fits hx hn hm
 obtain ⟨h1, h2⟩ := (may_facts hx hm).2.2.2.2.2.2.2.2.2.2.2
 exact back_any nl x F (by omega) (by omega)
/-! ### the words are good -/
theorem good_nums (l : List Int) (h : ∀ x ∈ l, 33 <= x /\ x <= 255 /\ x ≠ 34) (hn : l ≠ []) : GoodW (strOfNums l).data.toList := by
 rw [strOfNums_data]
 refine good_plain ?_ (by simpa using hn)
 intro b hb
 rw [List.mem_map] at hb
 obtain ⟨x, hx, rfl⟩ := hb
 have := h x hx
 have e : (UInt8.ofNat x.toNat).toNat = x.toNat := by rw [UInt8.toNat_ofNat']; omega
 constructor
 · intro h9
   rw [h9] at e
   have : (32 : UInt8).toNat = 32 := rfl
   omega
 · intro h9
   rw [h9] at e
   have : (34 : UInt8).toNat = 34 := rfl
   omega
theorem good_dec (n : Int) : GoodW (decS n).data.toList := by
 unfold decS
 refine good_nums _ (fun x hx => by have := decL_low n.toNat x hx; omega) ?_
 have := decL_pos n.toNat
 intro h
 rw [h] at this
 exact absurd this (by simp)
theorem good_hex (l : List Int) (h : Bytes l) (hn : l ≠ []) : GoodW (strOfNums (hexS l)).data.toList := by
 refine good_nums _ ?_ ?_
 · intro x hx
   unfold hexS at hx
   rw [List.mem_flatMap] at hx
   obtain ⟨y, hy, hx⟩ := hx
   have := h y hy
   simp only [List.mem_cons, List.not_mem_nil, or_false] at hx
   rcases hx with rfl | rfl
   · unfold hexd; split <;> omega
   · unfold hexd; split <;> omega
 · cases l with
   | nil => exact absurd rfl hn
   | cons a t => simp [hexS]
theorem good_pick (l : List Bool) : GoodW (pickS l).data.toList := by
 show GoodW (pickL l)
 unfold pickL
 split
 · exact good_plain (by simp) (by simp)
 · rename_i h
   refine good_plain ?_ (by intro h9; exact h (by rw [List.map_eq_nil_iff] at h9; rw [h9]; rfl))
   intro b hb
   rw [List.mem_map] at hb
   obtain ⟨c, _, rfl⟩ := hb
   cases c <;> decide
theorem good_rows : ∀ n : Fin 18, 1 <= n.val -> GoodW (rowOf (n.val : Int)).1.data.toList := by unfold GoodW; decide +kernel
theorem has_row : ∀ n : Fin 18, ∀ c ∈ (rowOf (n.val : Int)).2.data.toList, hasS (n.val : Int) c = true := by decide +kernel
theorem lets_only (c : UInt8) (h : c ∈ lets) : c = 119 \/ c = 109 \/ c = 120 \/ c = 98 \/ c = 110 \/ c = 115 \/ c = 100 \/ c = 116 \/ c = 107 \/ c = 105 \/ c = 114 \/ c = 112 := by
 unfold lets at h
 simpa using h
theorem good_words {nl : List ByteArray} {x : Act} (hx : ActOk x) (hm : mayS nl.length x = true) (c : UInt8) (hc : c ∈ (rowOf x.f0).2.data.toList) : ∀ w ∈ dl (wordsOf nl x ((c.toNat : Nat) : Int)), GoodW w := by
 obtain ⟨_, _, _, _, _, _, _, _, dd, ky, _, r1, r2⟩ := may_facts hx hm
 have hh : hasS x.f0 c = true := by
  obtain ⟨n, hn⟩ := Int.eq_ofNat_of_zero_le (show 0 <= x.f0 by omega)
  rw [hn] at hc ⊢
  exact has_row ⟨n, by omega⟩ c hc
 have one : ∀ b : ByteArray, GoodW b.data.toList -> ∀ w ∈ dl [b], GoodW w := by
  intro b hb w hw
  unfold dl at hw
  simp only [List.map_cons, List.map_nil, List.mem_singleton] at hw
  rw [hw]
  exact hb
 rcases lets_only c (row_lets _ c hc) with rfl | rfl | rfl | rfl | rfl | rfl | rfl | rfl | rfl | rfl | rfl | rfl
 · refine one _ (good_hex x.f10 hx.by_ ?_)
   unfold dataR at dd
   rw [if_pos hh] at dd
   simp only [Bool.and_eq_true, decide_eq_true_eq] at dd
   intro h9
   rw [h9] at dd
   simp at dd
 · exact one _ (good_quote _)
 · refine one _ (good_hex x.f10 hx.by_ ?_)
   intro h9
   have : ∀ n : Fin 18, hasS (n.val : Int) 120 = true -> dataR (n.val : Int) 0 = false := by decide +kernel
   obtain ⟨n, hn⟩ := Int.eq_ofNat_of_zero_le (show 0 <= x.f0 by omega)
   rw [h9, hn] at dd
   rw [hn] at hh
   have := this ⟨n, by omega⟩ hh
   simp only [List.length_nil] at dd
   rw [show ((0 : Nat) : Int) = 0 from rfl] at dd
   rw [this] at dd
   cases dd
 · exact one _ (good_dec _)
 · exact one _ (good_dec _)
 · unfold keyedS at ky
   rw [if_pos hh] at ky
   have hw : wordsOf nl x ((((115 : UInt8).toNat : Nat)) : Int) = if x.f3 = 2 then [xmssB, ExtP.nameS 3 x.f5] else hssB :: x.f4.map lvB := by unfold wordsOf; rw [if_neg (by decide), if_pos (by decide)]
   rw [hw]
   unfold setsS at ky
   by_cases h1 : x.f3 = 1
   · rw [if_pos h1] at ky
     simp only [Bool.and_eq_true, beq_iff_eq] at ky
     rw [if_neg (by omega)]
     intro w hw
     unfold dl at hw
     rw [List.map_cons, List.mem_cons] at hw
     rcases hw with rfl | hw
     · exact good_plain (by decide) (by decide)
     · rw [List.map_map, List.mem_map] at hw
       obtain ⟨v, hv, rfl⟩ := hw
       have h2 := ky.2
       unfold hssS at h2
       simp only [Bool.and_eq_true, List.all_eq_true] at h2
       have h3 := h2.2.2.1 v hv
       unfold lvOk at h3
       simp only [Bool.and_eq_true] at h3
       obtain ⟨i, hi⟩ := List.mem_iff_getElem?.1 hv
       have hb := hx.bd.lv i
       rw [List.getD_eq_getElem?_getD, hi] at hb
       have hk := fit_known v.f0 v.f1 hb.1.1 hb.2.1 h3.1
       exact good_lvB v hb.1.1 hb.2.1 hk.1 hk.2
   · rw [if_neg h1] at ky
     by_cases h2 : x.f3 = 2
     · rw [if_pos h2] at ky
       simp only [Bool.and_eq_true, decide_eq_true_eq] at ky
       rw [if_pos h2]
       have nb := nm_back 3 x.f5 hx.bd.xm.1 (xms_nm ky.1)
       intro w hw
       unfold dl at hw
       simp only [List.map_cons, List.map_nil, List.mem_cons, List.not_mem_nil, or_false] at hw
       rcases hw with rfl | rfl
       · exact good_plain (by decide) (by decide)
       · exact good_plain (fun b hb => ⟨(nb.2.1 b hb).1, (nb.2.1 b hb).2.1⟩) nb.2.2
     · rw [if_neg h2] at ky; cases ky
 · exact one _ (good_quote _)
 · exact one _ (good_quote _)
 · exact one _ (good_dec _)
 · exact one _ (good_dec _)
 · intro w hw
   have hq : wordsOf nl x ((((114 : UInt8).toNat : Nat)) : Int) = [decS x.f8.f0, decS x.f8.f1] := by unfold wordsOf; rw [if_pos (by decide)]
   rw [hq] at hw
   unfold dl at hw
   simp only [List.map_cons, List.map_nil, List.mem_cons, List.not_mem_nil, or_false] at hw
   rcases hw with rfl | rfl
   · exact good_dec _
   · exact good_dec _
 · exact one _ (good_pick _)
/-! ### a line is its words -/
theorem app_data (a b : ByteArray) : (a ++ b).data.toList = a.data.toList ++ b.data.toList := by rw [ByteArray.data_append, Array.toList_append]
theorem lv_join (l : List Lv) : ∀ (a : ByteArray) (ws : List (List UInt8)), ws ≠ [] -> a.data.toList = joinW ws -> (l.foldl lvF a).data.toList = joinW (ws ++ dl (l.map lvB)) := by
 induction l with
 | nil => intro a ws _ h; simpa [dl] using h
 | cons v t ih =>
   intro a ws hw h
   rw [List.foldl_cons, ih (lvF a v) (ws ++ [(lvB v).data.toList]) (by simp) ?_]
   · simp [dl]
   · rw [joinW_append ws _ hw (by simp), <- h]
     unfold lvF lvB
     simp only [app_data]
     show _ = _ ++ 32 :: (_ ++ _ ++ _)
     simp
theorem say_join (nl : List ByteArray) (x : Act) (c : Int) : (sayB nl x c).data.toList = joinW (dl (wordsOf nl x c)) /\ dl (wordsOf nl x c) ≠ [] := by
 unfold wordsOf
 by_cases h1 : c = 114
 · subst h1
   rw [if_pos rfl]
   refine ⟨?_, by simp [dl]⟩
   show ((decS x.f8.f0 ++ ⟨#[32]⟩) ++ decS x.f8.f1).data.toList = _
   simp only [app_data]
   rfl
 rw [if_neg h1]
 by_cases h2 : c = 115
 · subst h2
   rw [if_pos rfl]
   have e : sayB nl x 115 = setsB x := by unfold sayB; simp
   rw [e]
   unfold setsB
   by_cases h3 : x.f3 = 2
   · rw [if_pos h3, if_pos h3]
     refine ⟨?_, by simp [dl]⟩
     rw [app_data]
     rfl
   · rw [if_neg h3, if_neg h3]
     refine ⟨?_, by simp [dl]⟩
     rw [lv_join x.f4 ⟨#[104, 115, 115]⟩ [hssB.data.toList] (by simp) rfl]
     rfl
 rw [if_neg h2]
 exact ⟨rfl, by simp [dl]⟩
theorem fold_join (nl : List ByteArray) (x : Act) (cs : List UInt8) : ∀ (a : ByteArray) (ws : List (List UInt8)), ws ≠ [] -> a.data.toList = joinW ws -> (cs.foldl (lineF nl x) a).data.toList = joinW (ws ++ dl (cs.flatMap fun c => wordsOf nl x ((c.toNat : Nat) : Int))) := by
 induction cs with
 | nil => intro a ws _ h; simpa [dl] using h
 | cons c t ih =>
   intro a ws hw h
   obtain ⟨s1, s2⟩ := say_join nl x ((c.toNat : Nat) : Int)
   rw [List.foldl_cons, ih (lineF nl x a c) (ws ++ dl (wordsOf nl x ((c.toNat : Nat) : Int))) (by simp [hw]) ?_]
   · rw [List.flatMap_cons, dl_append, List.append_assoc]
   · rw [joinW_append ws _ hw s2, <- h, <- s1]
     unfold lineF
     simp only [app_data]
     simp
theorem line_join (nl : List ByteArray) (x : Act) : (lineB nl x).data.toList = joinW (dl (lineW nl x)) := by
 unfold lineB lineW
 rw [fold_join nl x _ _ [(rowOf x.f0).1.data.toList] (by simp) rfl]
 rfl
theorem line_words {nl : List ByteArray} {x : Act} (hx : ActOk x) (hm : mayS nl.length x = true) : ExtQ.wordsS (lineB nl x) = some (lineW nl x) := by
 obtain ⟨r1, r2⟩ := (may_facts hx hm).2.2.2.2.2.2.2.2.2.2.2
 unfold ExtQ.wordsS
 rw [line_join, wl_joinW]
 · rw [Option.map_some, strB_dl]
 · unfold dl lineW; simp
 · intro w hw
   unfold lineW at hw
   unfold dl at hw
   rw [List.map_cons, List.mem_cons] at hw
   rcases hw with rfl | hw
   · obtain ⟨n, hn⟩ := Int.eq_ofNat_of_zero_le (show 0 <= x.f0 by omega)
     rw [hn]
     exact good_rows ⟨n, by omega⟩ (show 1 <= n by omega)
   · rw [List.map_flatMap, List.mem_flatMap] at hw
     obtain ⟨c, hc, hw⟩ := hw
     exact good_words hx hm c hc w hw
theorem act_back {p : Plan} {x : Act} (hx : ActOk x) (hh : headedS p.f0 p.f1 p.f2 = true) (hm : mayS p.f2.length x = true) : actS p (lineB p.f2 x) = some x := by
 have hn : namesOk p.f2 p.f2.length = true := by
  unfold headedS at hh
  simp only [Bool.and_eq_true] at hh
  exact hh.2
 obtain ⟨r1, r2⟩ := (may_facts hx hm).2.2.2.2.2.2.2.2.2.2.2
 have hr : ExtQ.rowI ((lineW p.f2 x).headD ⟨#[]⟩) = x.f0 := by
  obtain ⟨n, hn⟩ := Int.eq_ofNat_of_zero_le (show 0 <= x.f0 by omega)
  unfold lineW
  rw [List.headD_cons, hn]
  exact row_back ⟨n, by omega⟩ (show 1 <= n by omega)
 unfold actS
 rw [line_words hx hm]
 simp only
 rw [read_back hx hn hm, if_pos ⟨hh, by rw [hr]; omega, hm, rfl⟩]
def namedR (l : List ByteArray) (q : ByteArray) : Int := if ExtQ.nameIx l q < l.length then (ExtQ.nameIx l q : Int) else 0
theorem namedR_hit (l : List ByteArray) (q : ByteArray) (i : Nat) (hi : i < l.length) (h : quoteS (l.getD i ByteArray.empty) = q) (hn : ∀ j < i, quoteS (l.getD j ByteArray.empty) ≠ q) : namedR l q = (i : Int) := by
 have := ExtQ.nameIx_hit l q i hi h hn
 unfold namedR
 rw [this, if_pos hi]
theorem namedR_none (l : List ByteArray) (q : ByteArray) (hn : ∀ j < l.length, quoteS (l.getD j ByteArray.empty) ≠ q) : namedR l q = 0 := by
 unfold namedR
 rw [if_neg (ExtQ.nameIx_none l q hn)]
theorem r_named (p : Plan) (q : ByteArray) (cp : List Value) (w : World) (hP : k25.K w p cp) (hl : p.f2.length <= 1048576) (hz : ∀ i, (p.f2.getD i ByteArray.empty).size <= 1073741824) :
 Calls Tryz.prog 87 #[.agg cp.toArray, .string q] w fun e w' => e = .returned (.int .i64 (namedR p.f2 q)) /\ Below w.heap.size w w' := by
 have P0 := Zz.mk (Bx.new w cp 25)
 obtain ⟨B2, d2, B3, d3, rfl, m2, e2, m3, e3⟩ := k25_open hP
 have HC := Zz.mk e2
 have cQ := Lib.hid (fun i W => r_Quote (p.f2.getD i ByteArray.empty) W (hz i))
 obtain ⟨R, hR⟩ : ∃ R, namedR p.f2 q = R := ⟨_, rfl⟩
 have HH := Zz.mk (fun i hi h hn => (namedR_hit p.f2 q i hi h hn).symm.trans hR)
 have HN := Zz.mk (fun hn => (namedR_none p.f2 q hn).symm.trans hR)
 rw [hR]
 clear hR hP e2 m3 e3 hz
 generalize p.f2 = l at *
 generalize p.f0 = a at *
 generalize p.f1 = b at *
 have r0 := P0.out.c 0
 have r1 := P0.out.c 1
 have r2 := P0.out.c 2
 go_enter Tryz.func87, Tryz.ntmps87
 go_wp2
 go_loopw [10] (fun v10 wr => ∃ i : Nat, v10 = .int .i64 i /\ i <= l.length /\ Zz (∀ j < i, quoteS (l.getD j ByteArray.empty) ≠ q) /\ Zz (Bx w wr w.heap.size [.int .i64 a, .int .i64 b, .slice B2 l.length d2, .slice B3 p.f3.length d3] 25)) (fun v10 _ => l.length - (intOf v10).toNat)
 case atStart => exact ⟨0, rfl, by omega, ⟨fun j hj => by omega⟩, P0⟩
 case round =>
  clear r0 r1 r2
  obtain ⟨i, rfl, hi, HA, HP⟩ := hrel
  by_cases hlt : i < l.length
  · obtain ⟨ad, e0, hx⟩ := Kd.at_string HC.out (i : Int) (by omega) (by omega)
    cases e0
    simp only [rdOf, Int.toNat_natCast] at hx
    have hx1 := (HP.out.hb.cell (World.block_lt_of_cell? w _ hx)).trans hx
    clear hx
    have c1 := Lib.hid (cQ.out i)
    have HH1 := Zz.mk (fun h => HH.out i hlt h HA.out)
    have HN1 := Zz.mk (fun h => lt_snoc (P := fun k => quoteS (l.getD k ByteArray.empty) ≠ q) HA.out h)
    clear HA
    generalize l.getD i ByteArray.empty = si at *
    generalize quoteS si = qi at *
    by_cases he : qi = q
    · have te : (qi.toList == q.toList) = true := by rw [he]; exact beq_self_eq_true _
      obtain rfl := HH1.out he
      clear he HH1 HN1
      go_wp2_with fail
      refine (c1.out _).mono ?_
      rintro e v ⟨rfl, hb⟩
      replace HP := Zz.mk (HP.out.next hb)
      clear hb c1
      go_wp2
      go_ret
      exact ⟨rfl, HP.out.hb⟩
    · have te := str_ne he
      have HN2 := Zz.mk (HN1.out he)
      clear he HH1 HN1
      go_wp2_with fail
      refine (c1.out _).mono ?_
      rintro e v ⟨rfl, hb⟩
      replace HP := Zz.mk (HP.out.next hb)
      clear hb c1
      go_wp2
      go_roundw
      case rel => exact ⟨i + 1, by go_num, by omega, HN2, HP⟩
      case measure => simp [intOf]; omega
  · obtain rfl : i = l.length := by omega
    obtain rfl := HN.out HA.out
    go_wp2
    go_ret
    exact ⟨rfl, HP.out.hb⟩
end Go.Proofs.YtpdinahdcedmkaaGreatDoor.Ext
