import Derived.Test.YtpdinahdcedmkaaDoorHAct
import Derived.Test.YtpdinahdcedmkaaDoorQSAct
/- script.Act, walked. -/
namespace Go.Proofs.YtpdinahdcedmkaaDoor.Ext
open Go.Proofs.YtpdinahdcedmkaaDoor.P
set_option linter.unusedVariables false
set_option linter.unusedSimpArgs false
open Go.RowKit Go.Proofs.YtpdinahdcedmkaaDoorW.PrintWords Go.Proofs.YtpdinahdcedmkaaDoorW.PrintLast Go.Proofs.YtpdinahdcedmkaaDoorW.PrintMore Go.Proofs.YtpdinahdcedmkaaDoor.Spec

/-- what lies in memory while script.Act goes on -/
structure AR (p : Plan) (B2 : Option Addr) (d2 : Nat) (B3 : Option Addr) (d3 : Nat) (w W : World) (wb : Nat) (v : Value) : Prop where
  pl : W.heap[w.heap.size]? = some (.cells #[.int .i64 p.f0, .int .i64 p.f1, .slice B2 p.f2.length d2, .slice B3 p.f3.length d3] 33)
  rs : W.heap[w.heap.size + 1]? = some (.cells #[.int .i64 0, .int .i64 0, .int .i64 0, .int .i64 0, .slice none 0 0, .int .u32 0, .int .u32 0, .int .u32 0, .int .u64 0, .int .u64 0, .int .i64 0, .slice none 0 0, .slice none 0 0] 42)
  wx : W.heap[wb]? = some (.cells #[v] 25)
  hb : Below w.heap.size w W
  lt : w.heap.size + 1 < wb
theorem AR.below {p : Plan} {B2 : Option Addr} {d2 : Nat} {B3 : Option Addr} {d3 : Nat} {w W W' : World} {wb : Nat} {v : Value} (h : AR p B2 d2 B3 d3 w W wb v) (hb : Below W.heap.size W W') : AR p B2 d2 B3 d3 w W' wb v :=
  ⟨krow h.pl hb, krow h.rs hb, krow h.wx hb, h.hb.trans (hb.mono h.hb.size), h.lt⟩
theorem K_zero (w : World) : k42.K w z42 [.int .i64 0, .int .i64 0, .int .i64 0, .int .i64 0, .slice none 0 0, .int .u32 0, .int .u32 0, .int .u32 0, .int .u64 0, .int .u64 0, .int .i64 0, .slice none 0 0, .slice none 0 0] := k42_mk w z42 (A4 := none) (c4 := 0) (Nat.le_refl _) (Kd.C_nil _ _) (A11 := none) (c11 := 0) (Nat.le_refl _) (Kd.C_nil _ _) (A12 := none) (c12 := 0) (Nat.le_refl _) (Kd.C_nil _ _)
theorem words_tail (g n c : Nat) (hc : n + 1 ≤ c) : ∀ W, (Instr.slice 25 (.slice (some ⟨g, 0, none⟩) (n + 1) c) (some (.int .i64 1)) none none).run Tryd.prog W = .ok (.slice (some (if c = 1 then ⟨g, 0, none⟩ else ⟨g, 1, none⟩)) n (c - 1)) W := by
  intro W
  rw [run_slice_l (P := Tryd.prog) (w := W) 25 (some ⟨g, 0, none⟩) (n + 1) c (by kernel_rfl) .i64 1 (by omega) (by omega)]
  have hz : ∀ W, (sizeOf (Tryd.prog.elem 25)).run Tryd.prog W = .ok 1 W := by intro W; kernel_rfl
  rw [hz]
  simp only [Result.andThen, sliced]
  by_cases h : c = 1
  · subst h
    simp
  · have h2 : ¬ (c : Int) = 1 := by omega
    simp [h, h2, Addr.add]
theorem words_left (W : World) (g c : Nat) (q : ByteArray) (tl : List ByteArray) (hc : tl.length + 1 ≤ c) (h : ExtQ.StrAt W (some ⟨g, 0, none⟩) (q :: tl)) : ExtQ.StrAt W (some (if c = 1 then ⟨g, 0, none⟩ else ⟨g, 1, none⟩)) tl := by
  by_cases h1 : c = 1
  · rw [if_pos h1]
    exact ⟨fun hl => by omega⟩
  · rw [if_neg h1]
    exact h.tail
theorem join_word : ∀ (ws : List (List UInt8)), ∀ x ∈ ws, x.length ≤ (joinW ws).length
  | [], x, h => by cases h
  | [y], x, h => by simp only [List.mem_singleton] at h; subst h; exact Nat.le_refl _
  | y :: z :: t, x, h => by
    have ih := join_word (z :: t)
    simp only [joinW, List.length_append, List.length_cons]
    rcases List.mem_cons.1 h with rfl | h
    · omega
    · have := ih x h
      try simp only [List.length_append] at this
      omega
theorem join_len : ∀ (ws : List (List UInt8)), ws.length ≤ (joinW ws).length + 1
  | [] => by simp
  | [y] => by simp
  | y :: z :: t => by
    have ih := join_len (z :: t)
    simp only [joinW, List.length_append, List.length_cons] at ih ⊢
    omega
theorem words_small {t : ByteArray} {ws : List ByteArray} (h : ExtQ.wordsS t = some ws) : ws ≠ [] ∧ ws.length ≤ t.size + 1 ∧ ∀ s ∈ ws, s.size ≤ t.size := by
  unfold ExtQ.wordsS at h
  rw [Option.map_eq_some_iff] at h
  obtain ⟨us, hu, rfl⟩ := h
  obtain ⟨hj, hne, _⟩ := wl_words hu
  have hl : (joinW us).length = t.size := by rw [hj, Array.length_toList]; rfl
  refine ⟨by simpa using hne, ?_, ?_⟩
  · have := join_len us
    rw [List.length_map]; omega
  · intro s hs
    rw [List.mem_map] at hs
    obtain ⟨u, hm, rfl⟩ := hs
    have := join_word us u hm
    show u.toArray.size ≤ _
    simp only [List.size_toArray]
    omega
set_option maxHeartbeats 16000000 in
set_option maxRecDepth 100000 in
theorem act_nw (p : Plan) (cp : List Value) (t : ByteArray) (w : World) (hP : k33.K w p cp) (hp : PlanBd p) (hs : t.size ≤ 1073741824) (hw : ExtQ.wordsS t = none) :
    Calls Tryd.prog 18 #[.agg cp.toArray, .string t] w (ActP none w) := by
  have cw := fun W => ExtQ.words_walk t W hs
  rw [hw] at cw
  unfold ExtQ.WordsPost at cw
  replace cw := Lib.hid cw
  clear hp hs hw
  have P0 := Aside0.mk ((Bx.new w cp 33).push (.cells #[.int .i64 0, .int .i64 0, .int .i64 0, .int .i64 0, .slice none 0 0, .int .u32 0, .int .u32 0, .int .u32 0, .int .u64 0, .int .u64 0, .int .i64 0, .slice none 0 0, .slice none 0 0] 42))
  have S0 := Aside0.mk ((Bx.new w cp 33).on [.int .i64 0, .int .i64 0, .int .i64 0, .int .i64 0, .slice none 0 0, .int .u32 0, .int .u32 0, .int .u32 0, .int .u64 0, .int .u64 0, .int .i64 0, .slice none 0 0, .slice none 0 0] 42 |>.at_ (show _ = w.heap.size + 1 by simp))
  obtain ⟨B2, d2, B3, d3, rfl, m2, e2, m3, e3⟩ := k33_open hP
  clear hP m2 e2 m3 e3
  go_enter Tryd.func18, Tryd.ntmps18
  go_wp2_with (first
    | (go_at_call 12
       with_reducible refine (cw.out _).mono ?_
       rintro e v1 ⟨⟨u, rfl, hR⟩, hb⟩
       obtain ⟨A1, c1, rfl, -, -⟩ := Kd.R_reads hR
       have HAR := Aside0.mk (⟨knew (krow P0.out.row hb), knew (krow S0.out.row hb), heap_alloc_new v1 (.cells #[.slice A1 ([] : List ByteArray).length c1] 25), (P0.out.hb.trans (hb.mono P0.out.hb.size)).alloc ((P0.out.hb.trans (hb.mono P0.out.hb.size)).size) _, (Array.getElem?_eq_some_iff.1 (krow S0.out.row hb)).1⟩ : AR p B2 d2 B3 d3 w (v1.alloc (.cells #[.slice A1 ([] : List ByteArray).length c1] 25)) v1.heap.size (.slice A1 ([] : List ByteArray).length c1))
       clear hR
       clear hb)
    | (refine wpList_store_row rfl 42 (.tmp 4) (.tmp 26) rfl (w.heap.size + 1) #[.int .i64 0, .int .i64 0, .int .i64 0, .int .i64 0, .slice none 0 0, .int .u32 0, .int .u32 0, .int .u32 0, .int .u64 0, .int .u64 0, .int .i64 0, .slice none 0 0, .slice none 0 0] rfl rfl 42 _ HAR.out.rs actC_info2 rfl (by simp [Value.oneCell']) ?_)
    | fail)
  refine bodyPost_ret (v := .tuple #[.agg #[.int .i64 0, .int .i64 0, .int .i64 0, .int .i64 0, .slice none 0 0, .int .u32 0, .int .u32 0, .int .u32 0, .int .u64 0, .int .u64 0, .int .i64 0, .slice none 0 0, .slice none 0 0], .int .i64 270]) (ExtQ.results_cell2 Tryd.results18 _ _ _ (w.heap.size + 1) rfl _ (.int .i64 270) (run_loadVar_row _ (w.heap.size + 1) 42 42 _ (0, 0) _ (setRow_heap _ _ _ _ _ _ HAR.out.rs) Tryd.underlying42 rfl actC_info2) rfl) rfl ?_
  exact ⟨⟨_, rfl, K_zero _⟩, below_setRow HAR.out.hb (by omega) _⟩
set_option maxHeartbeats 16000000 in
set_option maxRecDepth 100000 in
theorem act_nh (p : Plan) (cp : List Value) (t : ByteArray) (w : World) (hP : k33.K w p cp) (hp : PlanBd p) (hs : t.size ≤ 1073741824) (ws : List ByteArray) (hw : ExtQ.wordsS t = some ws) (hh : headedS p.f0 p.f1 p.f2 = false) :
    Calls Tryd.prog 18 #[.agg cp.toArray, .string t] w (ActP none w) := by
  have cw := fun W => ExtQ.words_walk t W hs
  rw [hw] at cw
  unfold ExtQ.WordsPost at cw
  replace cw := Lib.hid cw
  have ch := fun W (hW : Below w.heap.size w W) => c_head p cp W (k33.K_below hW hP) hp
  rw [hh] at ch
  replace ch := Lib.hid ch
  clear hp hs hw hh
  have P0 := Aside0.mk ((Bx.new w cp 33).push (.cells #[.int .i64 0, .int .i64 0, .int .i64 0, .int .i64 0, .slice none 0 0, .int .u32 0, .int .u32 0, .int .u32 0, .int .u64 0, .int .u64 0, .int .i64 0, .slice none 0 0, .slice none 0 0] 42))
  have S0 := Aside0.mk ((Bx.new w cp 33).on [.int .i64 0, .int .i64 0, .int .i64 0, .int .i64 0, .slice none 0 0, .int .u32 0, .int .u32 0, .int .u32 0, .int .u64 0, .int .u64 0, .int .i64 0, .slice none 0 0, .slice none 0 0] 42 |>.at_ (show _ = w.heap.size + 1 by simp))
  obtain ⟨B2, d2, B3, d3, rfl, m2, e2, m3, e3⟩ := k33_open hP
  clear hP m2 e2 m3 e3
  go_enter Tryd.func18, Tryd.ntmps18
  go_wp2_with (first
    | (go_at_call 12
       with_reducible refine (cw.out _).mono ?_
       rintro e v1 ⟨⟨u, rfl, hR⟩, hb⟩
       simp only [Option.getD_some] at hR
       obtain ⟨A1, c1, rfl, -, -⟩ := Kd.R_reads hR
       have HAR := Aside0.mk (⟨knew (krow P0.out.row hb), knew (krow S0.out.row hb), heap_alloc_new v1 (.cells #[.slice A1 ws.length c1] 25), (P0.out.hb.trans (hb.mono P0.out.hb.size)).alloc ((P0.out.hb.trans (hb.mono P0.out.hb.size)).size) _, (Array.getElem?_eq_some_iff.1 (krow S0.out.row hb)).1⟩ : AR p B2 d2 B3 d3 w (v1.alloc (.cells #[.slice A1 ws.length c1] 25)) v1.heap.size (.slice A1 ws.length c1))
       have r0 := blk_cell HAR.out.pl 0
       have r1 := blk_cell HAR.out.pl 1
       have r2 := blk_cell HAR.out.pl 2
       have r3 := blk_cell HAR.out.pl 3
       clear hR
       clear hb)
    | (go_at_call 23
       with_reducible refine (ch.out _ HAR.out.hb).mono ?_
       rintro e v2 ⟨rfl, hb⟩
       replace HAR := Aside0.mk (HAR.out.below hb)
       clear hb)
    | (refine wpList_store_row rfl 42 (.tmp 4) (.tmp 26) rfl (w.heap.size + 1) #[.int .i64 0, .int .i64 0, .int .i64 0, .int .i64 0, .slice none 0 0, .int .u32 0, .int .u32 0, .int .u32 0, .int .u64 0, .int .u64 0, .int .i64 0, .slice none 0 0, .slice none 0 0] rfl rfl 42 _ HAR.out.rs actC_info2 rfl (by simp [Value.oneCell']) ?_)
    | fail)
  refine bodyPost_ret (v := .tuple #[.agg #[.int .i64 0, .int .i64 0, .int .i64 0, .int .i64 0, .slice none 0 0, .int .u32 0, .int .u32 0, .int .u32 0, .int .u64 0, .int .u64 0, .int .i64 0, .slice none 0 0, .slice none 0 0], .int .i64 270]) (ExtQ.results_cell2 Tryd.results18 _ _ _ (w.heap.size + 1) rfl _ (.int .i64 270) (run_loadVar_row _ (w.heap.size + 1) 42 42 _ (0, 0) _ (setRow_heap _ _ _ _ _ _ HAR.out.rs) Tryd.underlying42 rfl actC_info2) rfl) rfl ?_
  exact ⟨⟨_, rfl, K_zero _⟩, below_setRow HAR.out.hb (by omega) _⟩
set_option maxHeartbeats 16000000 in
set_option maxRecDepth 100000 in
theorem act_norow (p : Plan) (cp : List Value) (t : ByteArray) (w : World) (hP : k33.K w p cp) (hp : PlanBd p) (hs : t.size ≤ 1073741824) (q : ByteArray) (tl : List ByteArray) (hw : ExtQ.wordsS t = some (q :: tl)) (hh : headedS p.f0 p.f1 p.f2 = true) (hr : ExtQ.rowI q < 1) :
    Calls Tryd.prog 18 #[.agg cp.toArray, .string t] w (ActP none w) := by
  have cw := fun W => ExtQ.words_walk t W hs
  rw [hw] at cw
  unfold ExtQ.WordsPost at cw
  replace cw := Lib.hid cw
  have ch := fun W (hW : Below w.heap.size w W) => c_head p cp W (k33.K_below hW hP) hp
  rw [hh] at ch
  replace ch := Lib.hid ch
  have cr := Lib.hid c_rows
  have ci := Lib.hid (@ExtQ.row_ix q)
  have hst := fun w => rows_store w #[.string ⟨#[]⟩, .string ⟨#[]⟩, .string ⟨#[]⟩, .string ⟨#[]⟩, .string ⟨#[]⟩, .string ⟨#[]⟩, .string ⟨#[]⟩, .string ⟨#[]⟩, .string ⟨#[]⟩, .string ⟨#[]⟩, .string ⟨#[]⟩, .string ⟨#[]⟩, .string ⟨#[]⟩, .string ⟨#[]⟩, .string ⟨#[]⟩, .string ⟨#[]⟩, .string ⟨#[]⟩, .string ⟨#[]⟩, .string ⟨#[]⟩, .string ⟨#[]⟩, .string ⟨#[]⟩, .string ⟨#[]⟩, .string ⟨#[]⟩, .string ⟨#[]⟩, .string ⟨#[]⟩, .string ⟨#[]⟩, .string ⟨#[]⟩, .string ⟨#[]⟩, .string ⟨#[]⟩, .string ⟨#[]⟩, .string ⟨#[]⟩, .string ⟨#[]⟩, .string ⟨#[]⟩, .string ⟨#[]⟩, .string ⟨#[]⟩, .string ⟨#[]⟩] rfl
  generalize ExtQ.rowI q = d at *
  clear hp hs hw hh
  have P0 := Aside0.mk ((Bx.new w cp 33).push (.cells #[.int .i64 0, .int .i64 0, .int .i64 0, .int .i64 0, .slice none 0 0, .int .u32 0, .int .u32 0, .int .u32 0, .int .u64 0, .int .u64 0, .int .i64 0, .slice none 0 0, .slice none 0 0] 42))
  have S0 := Aside0.mk ((Bx.new w cp 33).on [.int .i64 0, .int .i64 0, .int .i64 0, .int .i64 0, .slice none 0 0, .int .u32 0, .int .u32 0, .int .u32 0, .int .u64 0, .int .u64 0, .int .i64 0, .slice none 0 0, .slice none 0 0] 42 |>.at_ (show _ = w.heap.size + 1 by simp))
  obtain ⟨B2, d2, B3, d3, rfl, m2, e2, m3, e3⟩ := k33_open hP
  clear hP m2 e2 m3 e3
  go_enter Tryd.func18, Tryd.ntmps18
  go_wp2_with (first
    | (go_at_call 12
       with_reducible refine (cw.out _).mono ?_
       rintro e v1 ⟨⟨u, rfl, hR⟩, hb⟩
       simp only [Option.getD_some] at hR
       obtain ⟨g, cw, rfl, hcw, hst1⟩ := ExtQ.str_row hR (by simp)
       have HAR := Aside0.mk (⟨knew (krow P0.out.row hb), knew (krow S0.out.row hb), heap_alloc_new v1 (.cells #[.slice (some ⟨g, 0, none⟩) (q :: tl).length cw] 25), (P0.out.hb.trans (hb.mono P0.out.hb.size)).alloc ((P0.out.hb.trans (hb.mono P0.out.hb.size)).size) _, (Array.getElem?_eq_some_iff.1 (krow S0.out.row hb)).1⟩ : AR p B2 d2 B3 d3 w (v1.alloc (.cells #[.slice (some ⟨g, 0, none⟩) (q :: tl).length cw] 25)) v1.heap.size (.slice (some ⟨g, 0, none⟩) (q :: tl).length cw))
       have HST := Aside0.mk (hst1.below (ExtQ.cellsBelow _ (.cells #[.slice (some ⟨g, 0, none⟩) (q :: tl).length cw] 25)))
       rw [List.length_cons] at HAR hcw
       have r0 := blk_cell HAR.out.pl 0
       have r1 := blk_cell HAR.out.pl 1
       have r2 := blk_cell HAR.out.pl 2
       have r3 := blk_cell HAR.out.pl 3
       clear hR hst1
       clear hb)
    | (go_at_call 23
       with_reducible refine (ch.out _ HAR.out.hb).mono ?_
       rintro e v2 ⟨rfl, hb⟩
       replace HST := Aside0.mk (HST.out.below hb)
       replace HAR := Aside0.mk (HAR.out.below hb)
       clear hb)
    | (go_at_call 26
       with_reducible refine (cr.out _).mono ?_
       rintro e v3 ⟨rfl, hb⟩
       replace HST := Aside0.mk ((HST.out.below hb).below (ExtQ.cellsBelow v3 (.cells rowC 59)))
       replace HAR := Aside0.mk ((HAR.out.below hb).below (ExtQ.cellsBelow v3 (.cells rowC 59)))
       clear hb)
    | (go_at_call 27
       have hx1 : (v3.alloc (.cells rowC 59)).cell? ⟨v1.heap.size, 0, none⟩ = some (.slice (some ⟨g, 0, none⟩) (tl.length + 1) cw) := blk_cell HAR.out.wx 0
       with_reducible refine (ci.out _ v3.heap.size v1.heap.size g 0 (tl.length + 1) cw (heap_alloc_new v3 _) hx1 (by omega) HST.out.head).mono ?_
       rintro e v4 ⟨rfl, hb⟩
       clear hx1
       replace HST := Aside0.mk (HST.out.below hb)
       replace HAR := Aside0.mk (HAR.out.below hb)
       clear hb)
    | (refine wpList_store_row rfl 42 (.tmp 4) (.tmp 33) rfl (w.heap.size + 1) #[.int .i64 0, .int .i64 0, .int .i64 0, .int .i64 0, .slice none 0 0, .int .u32 0, .int .u32 0, .int .u32 0, .int .u64 0, .int .u64 0, .int .i64 0, .slice none 0 0, .slice none 0 0] rfl rfl 42 _ HAR.out.rs actC_info2 rfl (by simp [Value.oneCell']) ?_)
    | fail)
  refine bodyPost_ret (v := .tuple #[.agg #[.int .i64 0, .int .i64 0, .int .i64 0, .int .i64 0, .slice none 0 0, .int .u32 0, .int .u32 0, .int .u32 0, .int .u64 0, .int .u64 0, .int .i64 0, .slice none 0 0, .slice none 0 0], .int .i64 270]) (ExtQ.results_cell2 Tryd.results18 _ _ _ (w.heap.size + 1) rfl _ (.int .i64 270) (run_loadVar_row _ (w.heap.size + 1) 42 42 _ (0, 0) _ (setRow_heap _ _ _ _ _ _ HAR.out.rs) Tryd.underlying42 rfl actC_info2) rfl) rfl ?_
  exact ⟨⟨_, rfl, K_zero _⟩, below_setRow HAR.out.hb (by omega) _⟩
theorem AB.start {p : Plan} {B2 : Option Addr} {d2 : Nat} {B3 : Option Addr} {d3 : Nat} {w v4 : World} {wb : Nat} {v : Value} (h : AR p B2 d2 B3 d3 w v4 wb v) {d : Int} {G : Addr} {cw : Nat} {tl : List ByteArray} (hst : ExtQ.StrAt v4 (some G) tl) (hl : tl.length ≤ cw - 1) (h1 : tl.length ≤ 1073741824) : AB p B2 d2 B3 d3 w ((v4.alloc (.cells #[.int .i64 d, .int .i64 0, .int .i64 0, .int .i64 0, .slice none 0 0, .int .u32 0, .int .u32 0, .int .u32 0, .int .u64 0, .int .u64 0, .int .i64 0, .slice none 0 0, .slice none 0 0] 42)).alloc (.cells #[.int .i64 p.f0, .int .i64 p.f1, .slice B2 p.f2.length d2, .slice B3 p.f3.length d3, .slice (some G) tl.length (cw - 1)] 66)).drew v4.heap.size (v4.heap.size + 1) tl { z42 with f0 := d } (.slice none 0 0) (.slice none 0 0) (.slice none 0 0) := by
  have hb := Below.drew ((ExtQ.cellsBelow v4 (.cells #[.int .i64 d, .int .i64 0, .int .i64 0, .int .i64 0, .slice none 0 0, .int .u32 0, .int .u32 0, .int .u32 0, .int .u64 0, .int .u64 0, .int .i64 0, .slice none 0 0, .slice none 0 0] 42)).trans ((ExtQ.cellsBelow (v4.alloc (.cells #[.int .i64 d, .int .i64 0, .int .i64 0, .int .i64 0, .slice none 0 0, .int .u32 0, .int .u32 0, .int .u32 0, .int .u64 0, .int .u64 0, .int .i64 0, .slice none 0 0, .slice none 0 0] 42)) (.cells #[.int .i64 p.f0, .int .i64 p.f1, .slice B2 p.f2.length d2, .slice B3 p.f3.length d3, .slice (some G) tl.length (cw - 1)] 66)).mono (by simp)))
  have hr := heap_alloc_new (v4.alloc (.cells #[.int .i64 d, .int .i64 0, .int .i64 0, .int .i64 0, .slice none 0 0, .int .u32 0, .int .u32 0, .int .u32 0, .int .u64 0, .int .u64 0, .int .i64 0, .slice none 0 0, .slice none 0 0] 42)) (.cells #[.int .i64 p.f0, .int .i64 p.f1, .slice B2 p.f2.length d2, .slice B3 p.f3.length d3, .slice (some G) tl.length (cw - 1)] 66)
  rw [show (v4.alloc (.cells #[.int .i64 d, .int .i64 0, .int .i64 0, .int .i64 0, .slice none 0 0, .int .u32 0, .int .u32 0, .int .u32 0, .int .u64 0, .int .u64 0, .int .i64 0, .slice none 0 0, .slice none 0 0] 42)).heap.size = v4.heap.size + 1 by simp] at hr
  have h2 := h.below hb
  exact ⟨⟨⟨_, _, hr, hl, h1, hst.below hb⟩⟩, knew (heap_alloc_new v4 _), h2.pl, h2.rs, h2.hb, Held.nil _ _ _ _, Held.nil _ _ _ _, Held.nil _ _ _ _, (Array.getElem?_eq_some_iff.1 h.rs).1, by omega⟩
section
variable {p : Plan} {B2 : Option Addr} {d2 : Nat} {B3 : Option Addr} {d3 : Nat} {w W W' : World} {ab g : Nat} {l : List ByteArray} {x : Act} {u4 u11 u12 : Value}
theorem AB.iter (h : AB p B2 d2 B3 d3 w W ab g l x u4 u11 u12) {k pos : Nat} {s : ByteArray} (hk : W.heap[k]? = some (.stringIter s pos)) (hgt : g < k) (q : Nat) : AB p B2 d2 B3 d3 w (W.iterAt k s q) ab g l x u4 u11 u12 :=
  h.kept (ExtQ.iterAt_grown W k s q) (fun k' e => (by cases e; exact ⟨by have := h.g2; omega, fun cells fr => ⟨fun he => (by rw [hk] at he; cases he), fun he => (by rw [hk] at he; cases he), fun he => (by rw [hk] at he; cases he)⟩⟩)) (h.rd.step (ExtQ.iterAt_grown W k s q) (fun k' e => (by cases e; exact ⟨by omega, fun cells fr he => (by rw [hk] at he; cases he)⟩)))
theorem held_K (h4 : Held k72 72 w.heap.size W u4 x.f4) (h11 : Held (Kd.int .u8) 5 w.heap.size W u11 x.f10) (h12 : Held Kd.bool 4 w.heap.size W u12 x.f11) : k42.K W x [.int .i64 x.f0, .int .i64 x.f1, .int .i64 x.f2, .int .i64 x.f3, u4, .int .u32 x.f5, .int .u32 x.f6, .int .u32 x.f7, .int .u64 x.f8.f0, .int .u64 x.f8.f1, .int .i64 x.f9, u11, u12] := by
  obtain ⟨A4, c4, rfl, l4, g4, _⟩ := h4.out
  obtain ⟨A11, c11, rfl, l11, g11, _⟩ := h11.out
  obtain ⟨A12, c12, rfl, l12, g12, _⟩ := h12.out
  exact k42_mk W x l4 g4 l11 g11 l12 g12
theorem AB.ones (h : AB p B2 d2 B3 d3 w W ab g l x u4 u11 u12) : (#[.int .i64 x.f0, .int .i64 x.f1, .int .i64 x.f2, .int .i64 x.f3, u4, .int .u32 x.f5, .int .u32 x.f6, .int .u32 x.f7, .int .u64 x.f8.f0, .int .u64 x.f8.f1, .int .i64 x.f9, u11, u12]).all (·.oneCell') = true := by
  obtain ⟨A4, c4, rfl, _⟩ := h.h4.out
  obtain ⟨A11, c11, rfl, _⟩ := h.h11.out
  obtain ⟨A12, c12, rfl, _⟩ := h.h12.out
  simp [Value.oneCell']
theorem AB.act (h : AB p B2 d2 B3 d3 w W ab g l x u4 u11 u12) : k42.K W x [.int .i64 x.f0, .int .i64 x.f1, .int .i64 x.f2, .int .i64 x.f3, u4, .int .u32 x.f5, .int .u32 x.f6, .int .u32 x.f7, .int .u64 x.f8.f0, .int .u64 x.f8.f1, .int .i64 x.f9, u11, u12] := held_K h.h4 h.h11 h.h12
theorem AB.actR (h : AB p B2 d2 B3 d3 w W ab g l x u4 u11 u12) (cs : Array Value) : k42.K (W.setRow (w.heap.size + 1) cs) x [.int .i64 x.f0, .int .i64 x.f1, .int .i64 x.f2, .int .i64 x.f3, u4, .int .u32 x.f5, .int .u32 x.f6, .int .u32 x.f7, .int .u64 x.f8.f0, .int .u64 x.f8.f1, .int .i64 x.f9, u11, u12] :=
  held_K (h.h4.step flat_lv (setRow_grown _ _ _) (fun k hk cells fr he => (by cases hk; rw [h.rs] at he; cases he))) (h.h11.step (flat_int _) (setRow_grown _ _ _) (fun k hk cells fr he => (by cases hk; rw [h.rs] at he; cases he))) (h.h12.step flat_bool (setRow_grown _ _ _) (fun k hk cells fr he => (by cases hk; rw [h.rs] at he; cases he)))
end
set_option maxHeartbeats 16000000 in
set_option maxRecDepth 100000 in
theorem act_go (p : Plan) (cp : List Value) (t : ByteArray) (w : World) (hP : k33.K w p cp) (hp : PlanBd p) (hs : t.size ≤ 1073741824) (hT : Lib.Utf8Tabs 0 1 w) (hnm : ∀ i, (p.f2.getD i ByteArray.empty).size ≤ 1048576) (q : ByteArray) (tl : List ByteArray) (hw : ExtQ.wordsS t = some (q :: tl)) (hh : headedS p.f0 p.f1 p.f2 = true) (hr : ¬ ExtQ.rowI q < 1) :
    Calls Tryd.prog 18 #[.agg cp.toArray, .string t] w (ActP (if mayS p.f2.length (readS p.f2 (q :: tl)) = true ∧ lineB p.f2 (readS p.f2 (q :: tl)) = t then some (readS p.f2 (q :: tl)) else none) w) := by
  have hsm := words_small hw
  have ht1 : tl.length ≤ 1073741824 := by have := hsm.2.1; rw [List.length_cons] at this; omega
  have HZS : Aside0 (∀ s ∈ tl, s.size ≤ 1073741824) := ⟨fun s h => Nat.le_trans (hsm.2.2 s (List.mem_cons_of_mem _ h)) hs⟩
  have cw := fun W => ExtQ.words_walk t W hs
  rw [hw] at cw
  unfold ExtQ.WordsPost at cw
  replace cw := Lib.hid cw
  have ch := fun W (hW : Below w.heap.size w W) => c_head p cp W (k33.K_below hW hP) hp
  rw [hh] at ch
  replace ch := Lib.hid ch
  have cr := Lib.hid c_rows
  have ci := Lib.hid (@ExtQ.row_ix q)
  have hst := fun w => rows_store w #[.string ⟨#[]⟩, .string ⟨#[]⟩, .string ⟨#[]⟩, .string ⟨#[]⟩, .string ⟨#[]⟩, .string ⟨#[]⟩, .string ⟨#[]⟩, .string ⟨#[]⟩, .string ⟨#[]⟩, .string ⟨#[]⟩, .string ⟨#[]⟩, .string ⟨#[]⟩, .string ⟨#[]⟩, .string ⟨#[]⟩, .string ⟨#[]⟩, .string ⟨#[]⟩, .string ⟨#[]⟩, .string ⟨#[]⟩, .string ⟨#[]⟩, .string ⟨#[]⟩, .string ⟨#[]⟩, .string ⟨#[]⟩, .string ⟨#[]⟩, .string ⟨#[]⟩, .string ⟨#[]⟩, .string ⟨#[]⟩, .string ⟨#[]⟩, .string ⟨#[]⟩, .string ⟨#[]⟩, .string ⟨#[]⟩, .string ⟨#[]⟩, .string ⟨#[]⟩, .string ⟨#[]⟩, .string ⟨#[]⟩, .string ⟨#[]⟩, .string ⟨#[]⟩] rfl
  have cs := Lib.hid (c_Has (ExtQ.rowI q))
  have ca := Lib.hid (row_ascii (ExtQ.rowI q))
  have cl := Lib.hid (row_lets (ExtQ.rowI q))
  have hro := readS_ok p.f2 (q :: tl)
  obtain ⟨r, hR⟩ : ∃ r, (if mayS p.f2.length (readS p.f2 (q :: tl)) = true ∧ lineB p.f2 (readS p.f2 (q :: tl)) = t then some (readS p.f2 (q :: tl)) else none) = r := ⟨_, rfl⟩
  rw [hR]
  have HQ : Aside0 ((readS p.f2 (q :: tl)) = (putsS p.f2 (rowOf (ExtQ.rowI q)).2.data.toList ({ z42 with f0 := ExtQ.rowI q }, tl)).1) := ⟨rfl⟩
  have HR := Lib.hid hR
  clear hR hsm
  generalize (readS p.f2 (q :: tl)) = X at *
  have cm := Lib.hid (fun W (hW : Below w.heap.size w W) ks (hK : k42.K W X ks) => c_may p X cp ks W (k33.K_below hW hP) hK hro.bd)
  have cn := Lib.hid (fun (hm : mayS p.f2.length X = true) W (hW : Below w.heap.size w W) ks (hK : k42.K W X ks) => c_line p X cp ks W (k33.K_below hW hP) hK (say_may hnm hro hm) (Utf8Tabs_below hT hW))
  generalize mayS p.f2.length X = M at *
  generalize lineB p.f2 X = Ln at *
  have cv := Lib.hid (fun B2 d2 (e2 : Kd.C Kd.string w B2 p.f2.length p.f2) (m2 : p.f2.length ≤ d2) B3 d3 W ab g l x u4 u11 u12 h hz c hc => step_any p B2 d2 B3 d3 w W ab g l x u4 u11 u12 h hz e2 m2 hp.few (fun i => Nat.le_trans (hnm i) (by omega)) hT c hc)
  clear hro hT hnm
  generalize ExtQ.rowI q = d at *
  generalize (rowOf d).2 = hz at *
  have P0 := Aside0.mk ((Bx.new w cp 33).push (.cells #[.int .i64 0, .int .i64 0, .int .i64 0, .int .i64 0, .slice none 0 0, .int .u32 0, .int .u32 0, .int .u32 0, .int .u64 0, .int .u64 0, .int .i64 0, .slice none 0 0, .slice none 0 0] 42))
  have S0 := Aside0.mk ((Bx.new w cp 33).on [.int .i64 0, .int .i64 0, .int .i64 0, .int .i64 0, .slice none 0 0, .int .u32 0, .int .u32 0, .int .u32 0, .int .u64 0, .int .u64 0, .int .i64 0, .slice none 0 0, .slice none 0 0] 42 |>.at_ (show _ = w.heap.size + 1 by simp))
  obtain ⟨B2, d2, B3, d3, rfl, m2, e2, m3, e3⟩ := k33_open hP
  replace cv := Lib.hid (cv.out B2 d2 e2 m2 B3 d3)
  clear hP hp hs hw hh m2 e2 m3 e3
  go_enter Tryd.func18, Tryd.ntmps18
  go_wp2_with (first
    | (go_at_call 12
       with_reducible refine (cw.out _).mono ?_
       rintro e v1 ⟨⟨u, rfl, hR⟩, hb⟩
       simp only [Option.getD_some] at hR
       obtain ⟨g, cw, rfl, hcw, hst1⟩ := ExtQ.str_row hR (by simp)
       have HAR := Aside0.mk (⟨knew (krow P0.out.row hb), knew (krow S0.out.row hb), heap_alloc_new v1 (.cells #[.slice (some ⟨g, 0, none⟩) (q :: tl).length cw] 25), (P0.out.hb.trans (hb.mono P0.out.hb.size)).alloc ((P0.out.hb.trans (hb.mono P0.out.hb.size)).size) _, (Array.getElem?_eq_some_iff.1 (krow S0.out.row hb)).1⟩ : AR p B2 d2 B3 d3 w (v1.alloc (.cells #[.slice (some ⟨g, 0, none⟩) (q :: tl).length cw] 25)) v1.heap.size (.slice (some ⟨g, 0, none⟩) (q :: tl).length cw))
       have HST := Aside0.mk (hst1.below (ExtQ.cellsBelow _ (.cells #[.slice (some ⟨g, 0, none⟩) (q :: tl).length cw] 25)))
       rw [List.length_cons] at HAR hcw
       have r0 := blk_cell HAR.out.pl 0
       have r1 := blk_cell HAR.out.pl 1
       have r2 := blk_cell HAR.out.pl 2
       have r3 := blk_cell HAR.out.pl 3
       clear hR hst1
       clear hb)
    | (go_at_call 23
       with_reducible refine (ch.out _ HAR.out.hb).mono ?_
       rintro e v2 ⟨rfl, hb⟩
       replace HST := Aside0.mk (HST.out.below hb)
       replace HAR := Aside0.mk (HAR.out.below hb)
       clear hb)
    | (go_at_call 26
       with_reducible refine (cr.out _).mono ?_
       rintro e v3 ⟨rfl, hb⟩
       replace HST := Aside0.mk ((HST.out.below hb).below (ExtQ.cellsBelow v3 (.cells rowC 59)))
       replace HAR := Aside0.mk ((HAR.out.below hb).below (ExtQ.cellsBelow v3 (.cells rowC 59)))
       clear hb)
    | (go_at_call 27
       have hx1 : (v3.alloc (.cells rowC 59)).cell? ⟨v1.heap.size, 0, none⟩ = some (.slice (some ⟨g, 0, none⟩) (tl.length + 1) cw) := blk_cell HAR.out.wx 0
       with_reducible refine (ci.out _ v3.heap.size v1.heap.size g 0 (tl.length + 1) cw (heap_alloc_new v3 _) hx1 (by omega) HST.out.head).mono ?_
       rintro e v4 ⟨rfl, hb⟩
       clear hx1
       replace HST := Aside0.mk (HST.out.below hb)
       replace HAR := Aside0.mk (HAR.out.below hb)
       clear hb hst
       have wt := words_tail g tl.length cw hcw
       have HST2 := Aside0.mk (words_left v4 g cw q tl hcw HST.out)
       clear HST
       obtain ⟨G, hG⟩ : ∃ G : Addr, (if cw = 1 then ⟨g, 0, none⟩ else ⟨g, 1, none⟩) = G := ⟨_, rfl⟩
       rw [hG] at wt HST2
       clear hG
       have HAC := Aside0.mk (heap_alloc_new v4 (.cells #[.int .i64 d, .int .i64 0, .int .i64 0, .int .i64 0, .slice none 0 0, .int .u32 0, .int .u32 0, .int .u32 0, .int .u64 0, .int .u64 0, .int .i64 0, .slice none 0 0, .slice none 0 0] 42))
       have HA2 := Aside0.mk (HAR.out.below (ExtQ.cellsBelow v4 (.cells #[.int .i64 d, .int .i64 0, .int .i64 0, .int .i64 0, .slice none 0 0, .int .u32 0, .int .u32 0, .int .u32 0, .int .u64 0, .int .u64 0, .int .i64 0, .slice none 0 0, .slice none 0 0] 42)))
       have r0 := blk_cell HA2.out.pl 0
       have r1 := blk_cell HA2.out.pl 1
       have r2 := blk_cell HA2.out.pl 2
       have r3 := blk_cell HA2.out.pl 3
       have rx := blk_cell HA2.out.wx 0
       have has := fun w => ExtQ.act_store w #[.int .i64 0, .int .i64 0, .int .i64 0, .int .i64 0, .slice none 0 0, .int .u32 0, .int .u32 0, .int .u32 0, .int .u64 0, .int .u64 0, .int .i64 0, .slice none 0 0, .slice none 0 0] #[.int .i64 d, .int .i64 0, .int .i64 0, .int .i64 0, .slice none 0 0, .int .u32 0, .int .u32 0, .int .u32 0, .int .u64 0, .int .u64 0, .int .i64 0, .slice none 0 0, .slice none 0 0] rfl rfl (by simp [Value.oneCell']))
    | fail)
  go_region
  have HAB0 := Aside0.mk (AB.start HAR.out (d := d) HST2.out (show tl.length ≤ cw - 1 by omega) ht1)
  clear HAR HST2 HAC HA2 r0 r1 r2 r3 rx wt has
  go_wp2_with (first
    | (go_at_call 8
       with_reducible refine (cs.out _).mono ?_
       rintro e v6 ⟨rfl, hb⟩
       have HGT : Aside0 (v4.heap.size + 1 < v6.heap.size) := ⟨by obtain ⟨_, _, h1, _⟩ := (HAB0.out.below hb).rd.out; exact (Array.getElem?_eq_some_iff.1 h1).1⟩
       have HAB1 := Aside0.mk (HAB0.out.below hb)
       clear hb)
    | fail)
  go_loopw [13] (fun v13 wr => ∃ (pos : Nat) (x : Act) (l : List ByteArray) (u4 u11 u12 : Value), pos ≤ hz.size ∧ wr.heap[v6.heap.size]? = some (.stringIter hz pos) ∧ Aside0 (X = (putsS p.f2 (hz.data.toList.drop pos) (x, l)).1) ∧ Aside0 (∀ s ∈ l, s.size ≤ 1073741824) ∧ Aside0 (AB p B2 d2 B3 d3 w wr v4.heap.size (v4.heap.size + 1) l x u4 u11 u12)) (fun _ wr => hz.size - wr.iterPos v6.heap.size)
  case atStart => exact ⟨0, _, tl, _, _, _, by omega, iter_new v6 hz, ⟨HQ.out⟩, HZS, ⟨HAB1.out.below ((Below.refl _ _).alloc (Nat.le_refl _) _)⟩⟩
  case round =>
    clear HAB0 HAB1 HQ HZS
    obtain ⟨pos, x, l, u4, u11, u12, hpl, hit, HQ, HZS, HAB⟩ := hrel
    by_cases hp : pos < hz.size
    · have hnx := fun ty => Lib.run_next_ascii_at (P := Tryd.prog) wr v6.heap.size hz pos ty hit hp (ca.out pos hp)
      have HQ1 := HQ.out
      rw [row_drop hz pos hp] at HQ1
      have hmem : hz[pos] ∈ lets := cl.out _ (by rw [List.mem_iff_getElem]; exact ⟨pos, by rw [Array.length_toList]; exact hp, rfl⟩)
      have HI := Aside0.mk (Lib.iterAt_heap wr v6.heap.size hz pos (pos + 1) hit)
      replace HAB := Aside0.mk (HAB.out.iter hit HGT.out (pos + 1))
      have HMM : Aside0 (hz.size - (pos + 1) < hz.size - wr.iterPos v6.heap.size) := ⟨by rw [iterPos_of hit]; omega⟩
      clear HQ
      generalize hz[pos] = c at *
      have HQ := Aside0.mk (show X = (putsS p.f2 (hz.data.toList.drop (pos + 1)) (putS p.f2 ((c.toNat : Nat) : Int) l x)).1 from HQ1)
      clear HQ1
      have HZ2 := Aside0.mk (fun s h => HZS.out s (putS_sub p.f2 ((c.toNat : Nat) : Int) l x s h))
      generalize wr.iterAt v6.heap.size hz (pos + 1) = wi at *
      have cS := Lib.hid (cv.out wi v4.heap.size (v4.heap.size + 1) l x u4 u11 u12 HAB.out HZS.out c hmem)
      clear hmem HZS
      generalize putS p.f2 ((c.toNat : Nat) : Int) l x = y at *
      go_wp2_with (first
        | (go_at_call 30
           with_reducible refine cS.out.mono ?_
           rintro e v7 ⟨v, rfl, hg, hy⟩
           have HI7 := Aside0.mk (ExtQ.row_step HI.out hg (by have := HGT.out; omega))
           unfold Ready at hy
           have cP := Lib.hid hy
           clear hg hy)
        | (go_at_call 29
           with_reducible refine cP.out.mono ?_
           rintro e v8 ⟨rfl, hg, u4', u11', u12', hAB⟩
           have HI8 := Aside0.mk (ExtQ.row_step HI7.out hg (by have := HGT.out; omega))
           have HAB8 := Aside0.mk hAB
           clear hg hAB)
        | fail)
      go_roundw
      case rel => exact ⟨pos + 1, y.1, y.2, u4', u11', u12', by omega, HI8.out, HQ, HZ2, HAB8⟩
      case measure => rw [iterPos_of HI8.out]; exact HMM.out
    · have hnx := fun ty => Lib.run_next_end_at (P := Tryd.prog) wr v6.heap.size hz pos ty hit hp
      obtain rfl : X = x := by
        have := HQ.out
        rw [List.drop_of_length_le (by rw [Array.length_toList]; show hz.size ≤ pos; omega)] at this
        exact this
      clear HQ HZS
      have q0 := blk_cell HAB.out.ac 0
      have q1 := blk_cell HAB.out.ac 1
      have q2 := blk_cell HAB.out.ac 2
      have q3 := blk_cell HAB.out.ac 3
      have q4 := blk_cell HAB.out.ac 4
      have q5 := blk_cell HAB.out.ac 5
      have q6 := blk_cell HAB.out.ac 6
      have q7 := blk_cell HAB.out.ac 7
      have q8 := blk_cell HAB.out.ac 8
      have q9 := blk_cell HAB.out.ac 9
      have q10 := blk_cell HAB.out.ac 10
      have q11 := blk_cell HAB.out.ac 11
      have q12 := blk_cell HAB.out.ac 12
      have r0 := blk_cell HAB.out.pl 0
      have r1 := blk_cell HAB.out.pl 1
      have r2 := blk_cell HAB.out.pl 2
      have r3 := blk_cell HAB.out.pl 3
      cases M with
      | false =>
        obtain rfl : r = none := by rw [← HR.out, if_neg (by simp)]
        clear HR cn
        go_wp2_with (first
          | (go_at_call 24
             with_reducible refine (cm.out _ HAB.out.hb _ HAB.out.act).mono ?_
             rintro e v9 ⟨rfl, hb⟩
             replace HAB := Aside0.mk (HAB.out.below hb)
             clear hb
             have q0 := blk_cell HAB.out.ac 0
             have q1 := blk_cell HAB.out.ac 1
             have q2 := blk_cell HAB.out.ac 2
             have q3 := blk_cell HAB.out.ac 3
             have q4 := blk_cell HAB.out.ac 4
             have q5 := blk_cell HAB.out.ac 5
             have q6 := blk_cell HAB.out.ac 6
             have q7 := blk_cell HAB.out.ac 7
             have q8 := blk_cell HAB.out.ac 8
             have q9 := blk_cell HAB.out.ac 9
             have q10 := blk_cell HAB.out.ac 10
             have q11 := blk_cell HAB.out.ac 11
             have q12 := blk_cell HAB.out.ac 12
             have r0 := blk_cell HAB.out.pl 0
             have r1 := blk_cell HAB.out.pl 1
             have r2 := blk_cell HAB.out.pl 2
             have r3 := blk_cell HAB.out.pl 3)
          | (go_at_call 25
             with_reducible refine (cn.out _ HAB.out.hb _ HAB.out.act).mono ?_
             rintro e v10 ⟨rfl, hb⟩
             replace HAB := Aside0.mk (HAB.out.below hb)
             clear hb
             have q0 := blk_cell HAB.out.ac 0
             have q1 := blk_cell HAB.out.ac 1
             have q2 := blk_cell HAB.out.ac 2
             have q3 := blk_cell HAB.out.ac 3
             have q4 := blk_cell HAB.out.ac 4
             have q5 := blk_cell HAB.out.ac 5
             have q6 := blk_cell HAB.out.ac 6
             have q7 := blk_cell HAB.out.ac 7
             have q8 := blk_cell HAB.out.ac 8
             have q9 := blk_cell HAB.out.ac 9
             have q10 := blk_cell HAB.out.ac 10
             have q11 := blk_cell HAB.out.ac 11
             have q12 := blk_cell HAB.out.ac 12
             have r0 := blk_cell HAB.out.pl 0
             have r1 := blk_cell HAB.out.pl 1
             have r2 := blk_cell HAB.out.pl 2
             have r3 := blk_cell HAB.out.pl 3)
          | (refine wpList_store_row rfl 42 (.tmp 4) (.tmp 63) rfl (w.heap.size + 1) #[.int .i64 0, .int .i64 0, .int .i64 0, .int .i64 0, .slice none 0 0, .int .u32 0, .int .u32 0, .int .u32 0, .int .u64 0, .int .u64 0, .int .i64 0, .slice none 0 0, .slice none 0 0] rfl rfl 42 _ HAB.out.rs actC_info2 rfl (by first | exact HAB.out.ones | simp [Value.oneCell']) ?_)
          | fail)
        refine bodyPost_ret (v := .tuple #[.agg #[.int .i64 0, .int .i64 0, .int .i64 0, .int .i64 0, .slice none 0 0, .int .u32 0, .int .u32 0, .int .u32 0, .int .u64 0, .int .u64 0, .int .i64 0, .slice none 0 0, .slice none 0 0], .int .i64 270]) (ExtQ.results_cell2 Tryd.results18 _ _ _ (w.heap.size + 1) rfl _ (.int .i64 270) (run_loadVar_row _ (w.heap.size + 1) 42 42 _ (0, 0) _ (setRow_heap _ _ _ _ _ _ HAB.out.rs) Tryd.underlying42 rfl actC_info2) rfl) rfl ?_
        exact ⟨⟨_, rfl, K_zero _⟩, below_setRow HAB.out.hb (by omega) _⟩
      | true =>
        replace cn := Lib.hid (cn.out rfl)
        by_cases hlt : Ln = t
        · obtain rfl : r = some X := by rw [← HR.out, if_pos ⟨rfl, hlt⟩]
          obtain rfl := hlt
          clear HR
          go_wp2_with (first
            | (go_at_call 24
               with_reducible refine (cm.out _ HAB.out.hb _ HAB.out.act).mono ?_
               rintro e v9 ⟨rfl, hb⟩
               replace HAB := Aside0.mk (HAB.out.below hb)
               clear hb
               have q0 := blk_cell HAB.out.ac 0
               have q1 := blk_cell HAB.out.ac 1
               have q2 := blk_cell HAB.out.ac 2
               have q3 := blk_cell HAB.out.ac 3
               have q4 := blk_cell HAB.out.ac 4
               have q5 := blk_cell HAB.out.ac 5
               have q6 := blk_cell HAB.out.ac 6
               have q7 := blk_cell HAB.out.ac 7
               have q8 := blk_cell HAB.out.ac 8
               have q9 := blk_cell HAB.out.ac 9
               have q10 := blk_cell HAB.out.ac 10
               have q11 := blk_cell HAB.out.ac 11
               have q12 := blk_cell HAB.out.ac 12
               have r0 := blk_cell HAB.out.pl 0
               have r1 := blk_cell HAB.out.pl 1
               have r2 := blk_cell HAB.out.pl 2
               have r3 := blk_cell HAB.out.pl 3)
            | (go_at_call 25
               with_reducible refine (cn.out _ HAB.out.hb _ HAB.out.act).mono ?_
               rintro e v10 ⟨rfl, hb⟩
               replace HAB := Aside0.mk (HAB.out.below hb)
               clear hb
               have q0 := blk_cell HAB.out.ac 0
               have q1 := blk_cell HAB.out.ac 1
               have q2 := blk_cell HAB.out.ac 2
               have q3 := blk_cell HAB.out.ac 3
               have q4 := blk_cell HAB.out.ac 4
               have q5 := blk_cell HAB.out.ac 5
               have q6 := blk_cell HAB.out.ac 6
               have q7 := blk_cell HAB.out.ac 7
               have q8 := blk_cell HAB.out.ac 8
               have q9 := blk_cell HAB.out.ac 9
               have q10 := blk_cell HAB.out.ac 10
               have q11 := blk_cell HAB.out.ac 11
               have q12 := blk_cell HAB.out.ac 12
               have r0 := blk_cell HAB.out.pl 0
               have r1 := blk_cell HAB.out.pl 1
               have r2 := blk_cell HAB.out.pl 2
               have r3 := blk_cell HAB.out.pl 3)
            | (refine wpList_store_row rfl 42 (.tmp 4) (.tmp 64) rfl (w.heap.size + 1) #[.int .i64 X.f0, .int .i64 X.f1, .int .i64 X.f2, .int .i64 X.f3, u4, .int .u32 X.f5, .int .u32 X.f6, .int .u32 X.f7, .int .u64 X.f8.f0, .int .u64 X.f8.f1, .int .i64 X.f9, u11, u12] rfl rfl 42 _ HAB.out.rs actC_info2 rfl (by first | exact HAB.out.ones | simp [Value.oneCell']) ?_)
            | fail)
          refine bodyPost_ret (v := .tuple #[.agg #[.int .i64 X.f0, .int .i64 X.f1, .int .i64 X.f2, .int .i64 X.f3, u4, .int .u32 X.f5, .int .u32 X.f6, .int .u32 X.f7, .int .u64 X.f8.f0, .int .u64 X.f8.f1, .int .i64 X.f9, u11, u12], .int .i64 0]) (ExtQ.results_cell2 Tryd.results18 _ _ _ (w.heap.size + 1) rfl _ (.int .i64 0) (run_loadVar_row _ (w.heap.size + 1) 42 42 _ (0, 0) _ (setRow_heap _ _ _ _ _ _ HAB.out.rs) Tryd.underlying42 rfl actC_info2) rfl) rfl ?_
          exact ⟨⟨_, rfl, HAB.out.actR _⟩, below_setRow HAB.out.hb (by omega) _⟩
        · obtain rfl : r = none := by rw [← HR.out, if_neg (by simp [hlt])]
          have hl2 : (Ln.toList == t.toList) = false := str_ne hlt
          clear HR
          go_wp2_with (first
            | (go_at_call 24
               with_reducible refine (cm.out _ HAB.out.hb _ HAB.out.act).mono ?_
               rintro e v9 ⟨rfl, hb⟩
               replace HAB := Aside0.mk (HAB.out.below hb)
               clear hb
               have q0 := blk_cell HAB.out.ac 0
               have q1 := blk_cell HAB.out.ac 1
               have q2 := blk_cell HAB.out.ac 2
               have q3 := blk_cell HAB.out.ac 3
               have q4 := blk_cell HAB.out.ac 4
               have q5 := blk_cell HAB.out.ac 5
               have q6 := blk_cell HAB.out.ac 6
               have q7 := blk_cell HAB.out.ac 7
               have q8 := blk_cell HAB.out.ac 8
               have q9 := blk_cell HAB.out.ac 9
               have q10 := blk_cell HAB.out.ac 10
               have q11 := blk_cell HAB.out.ac 11
               have q12 := blk_cell HAB.out.ac 12
               have r0 := blk_cell HAB.out.pl 0
               have r1 := blk_cell HAB.out.pl 1
               have r2 := blk_cell HAB.out.pl 2
               have r3 := blk_cell HAB.out.pl 3)
            | (go_at_call 25
               with_reducible refine (cn.out _ HAB.out.hb _ HAB.out.act).mono ?_
               rintro e v10 ⟨rfl, hb⟩
               replace HAB := Aside0.mk (HAB.out.below hb)
               clear hb
               have q0 := blk_cell HAB.out.ac 0
               have q1 := blk_cell HAB.out.ac 1
               have q2 := blk_cell HAB.out.ac 2
               have q3 := blk_cell HAB.out.ac 3
               have q4 := blk_cell HAB.out.ac 4
               have q5 := blk_cell HAB.out.ac 5
               have q6 := blk_cell HAB.out.ac 6
               have q7 := blk_cell HAB.out.ac 7
               have q8 := blk_cell HAB.out.ac 8
               have q9 := blk_cell HAB.out.ac 9
               have q10 := blk_cell HAB.out.ac 10
               have q11 := blk_cell HAB.out.ac 11
               have q12 := blk_cell HAB.out.ac 12
               have r0 := blk_cell HAB.out.pl 0
               have r1 := blk_cell HAB.out.pl 1
               have r2 := blk_cell HAB.out.pl 2
               have r3 := blk_cell HAB.out.pl 3)
            | (refine wpList_store_row rfl 42 (.tmp 4) (.tmp 63) rfl (w.heap.size + 1) #[.int .i64 0, .int .i64 0, .int .i64 0, .int .i64 0, .slice none 0 0, .int .u32 0, .int .u32 0, .int .u32 0, .int .u64 0, .int .u64 0, .int .i64 0, .slice none 0 0, .slice none 0 0] rfl rfl 42 _ HAB.out.rs actC_info2 rfl (by first | exact HAB.out.ones | simp [Value.oneCell']) ?_)
            | fail)
          refine bodyPost_ret (v := .tuple #[.agg #[.int .i64 0, .int .i64 0, .int .i64 0, .int .i64 0, .slice none 0 0, .int .u32 0, .int .u32 0, .int .u32 0, .int .u64 0, .int .u64 0, .int .i64 0, .slice none 0 0, .slice none 0 0], .int .i64 270]) (ExtQ.results_cell2 Tryd.results18 _ _ _ (w.heap.size + 1) rfl _ (.int .i64 270) (run_loadVar_row _ (w.heap.size + 1) 42 42 _ (0, 0) _ (setRow_heap _ _ _ _ _ _ HAB.out.rs) Tryd.underlying42 rfl actC_info2) rfl) rfl ?_
          exact ⟨⟨_, rfl, K_zero _⟩, below_setRow HAB.out.hb (by omega) _⟩
theorem c_Act (p : Plan) (cp : List Value) (t : ByteArray) (w : World) (hP : k33.K w p cp) (hp : PlanBd p) (hs : t.size ≤ 1073741824) (hT : Lib.Utf8Tabs 0 1 w) (hnm : ∀ i, (p.f2.getD i ByteArray.empty).size ≤ 1048576) :
    Calls Tryd.prog 18 #[.agg cp.toArray, .string t] w (ActP (actS p t) w) := by
  unfold actS
  cases hw : ExtQ.wordsS t with
  | none => exact act_nw p cp t w hP hp hs hw
  | some ws =>
    simp only
    cases hh : headedS p.f0 p.f1 p.f2 with
    | false =>
      rw [if_neg (fun h => (by cases h.1))]
      exact act_nh p cp t w hP hp hs ws hw hh
    | true =>
      cases ws with
      | nil => exact absurd rfl (words_small hw).1
      | cons q tl =>
        by_cases hr : ExtQ.rowI q < 1
        · rw [if_neg (fun h => (by have := h.2.1; simp only [List.headD_cons] at this; omega))]
          exact act_norow p cp t w hP hp hs q tl hw hh hr
        · have key := act_go p cp t w hP hp hs hT hnm q tl hw hh hr
          by_cases hc : mayS p.f2.length (readS p.f2 (q :: tl)) = true ∧ lineB p.f2 (readS p.f2 (q :: tl)) = t
          · rw [if_pos hc] at key
            rw [if_pos ⟨rfl, (by simp only [List.headD_cons]; omega), hc.1, hc.2⟩]
            exact key
          · rw [if_neg hc] at key
            rw [if_neg (fun h => hc ⟨h.2.2.1, h.2.2.2⟩)]
            exact key
end Go.Proofs.YtpdinahdcedmkaaDoor.Ext

