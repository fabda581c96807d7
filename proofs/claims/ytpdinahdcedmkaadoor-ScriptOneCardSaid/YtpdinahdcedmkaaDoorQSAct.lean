import Derived.Test.YtpdinahdcedmkaaDoorMPut
import Derived.Test.YtpdinahdcedmkaaDoorMLine
import Derived.Laws.CopyOwn
import Derived.Test.YtpdinahdcedmkaaDoorQ1
/- script.Act of the chapter's example. -/
namespace Go.Proofs.YtpdinahdcedmkaaDoor.ExtQ
open Go.Proofs.YtpdinahdcedmkaaDoor.Ext
open Go.Proofs.YtpdinahdcedmkaaDoor.Q
set_option linter.unusedVariables false
set_option linter.unusedSimpArgs false
open Go.RowKit Go.Proofs.YtpdinahdcedmkaaDoorW.PrintLast Go.Proofs.YtpdinahdcedmkaaDoorW.PrintMore
open Go.Proofs.YtpdinahdcedmkaaDoorW.PrintWords hiding blk_cell blk_set nums_append

def liveT : ByteArray := ⟨#[99, 114, 97, 115, 104, 32, 34, 98, 34, 32, 43, 45, 43]⟩
def w1 : ByteArray := ⟨#[99, 114, 97, 115, 104]⟩
def w2 : ByteArray := ⟨#[34, 98, 34]⟩
def w3 : ByteArray := ⟨#[43, 45, 43]⟩
def liveN : List ByteArray := [⟨#[97, 108, 112, 104, 97]⟩, ⟨#[98]⟩]
theorem live_words : script_Words.f liveT = some ([w1, w2, w3], 0) := by decide +kernel
theorem actC_info : (Tryd.prog.info? 42).map (·.size) = some 13 := by kernel_rfl
theorem act_store (w : World) (c d : Array Value) (hc : c.size = 13) (hd : d.size = 13) (ho : d.all (·.oneCell') = true) : (storeCells ⟨w.heap.size, 0, none⟩ d.toList).run Tryd.prog (w.alloc (.cells c 42)) = .ok () (w.alloc (.cells d 42)) :=
  run_storeCells_new (P := Tryd.prog) w 42 c d (by rw [hd]; exact actC_info) (by rw [hc, hd]) ho
theorem str_row {w : World} {base : Nat} {ok : Nat → Prop} {v : Value} {l : List ByteArray} (h : Kd.R Kd.string 9 w base ok v l) (hl : 0 < l.length) : ∃ g c, v = .slice (some ⟨g, 0, none⟩) l.length c ∧ l.length ≤ c ∧ StrAt w (some ⟨g, 0, none⟩) l := by
  obtain ⟨inner, ho, hr⟩ := h.2
  obtain ⟨A, c, he, hle, hC⟩ := Kd.R_reads h
  rcases ho.2 with ⟨rfl, h0⟩ | ⟨g, cap, cur, hv, hg, hh, r⟩
  · exfalso
    injection he with _ h2 _
    omega
  · rw [hv] at he
    injection he with h1 _ h3
    subst h1
    subst h3
    refine ⟨g, _, hv, hle, ⟨fun _ => ⟨g, 0, cur, (0, 0), rfl, hh, fun j s hj => ?_⟩⟩⟩
    have hlt : j < l.length := by
      rcases Nat.lt_or_ge j l.length with h | h
      · exact h
      · rw [List.getElem?_eq_none h] at hj; cases hj
    obtain ⟨ad, e1, hx⟩ := Kd.at_string hC (j : Int) (by omega) (by omega)
    cases e1
    rw [Int.toNat_natCast] at hx
    have : rdOf ByteArray.empty l (j : Int) = s := by
      unfold rdOf
      rw [Int.toNat_natCast, List.getD_eq_getElem?_getD, hj]
      rfl
    rw [this] at hx
    have e : (⟨g, 0, none⟩ : Addr).add j = ⟨g, 0 + j, none⟩ := by unfold Addr.add; by_cases h : j = 0 <;> simp [h]
    rw [← e]
    exact hx
theorem StrAt.head {w : World} {b i : Nat} {s : ByteArray} {t : List ByteArray} (h : StrAt w (some ⟨b, i, none⟩) (s :: t)) : w.cell? ⟨b, i, none⟩ = some (.string s) := by
  obtain ⟨b', i', cells, fr, h1, h2, h3⟩ := h.out (by simp)
  simp only [Option.some.injEq, Addr.mk.injEq, and_true] at h1
  obtain ⟨rfl, rfl⟩ := h1
  exact h3 0 s rfl
theorem live_may : script_may.f 1 8 1 liveN [] 16 1 0 0 [] 0 0 0 0 0 0 [] [true, false, true] = some true := by decide +kernel
theorem live_line : script_line.f 1 8 1 liveN [] 16 1 0 0 [] 0 0 0 0 0 0 [] [true, false, true] = some liveT := by decide +kernel
theorem results_cell2 {fn : Func} {a b : Tmp} {t : TypeId} (h : fn.results = #[.cell a t, .tmp b]) (tmps : Array Value) (P : Program) (w : World) (g : Nat) (hp : tmps.getD a undef = .pointer (some ⟨g, 0, none⟩)) (v u : Value) (hl : (loadVar t ⟨g, 0, none⟩).run P w = .ok v w) (hu : tmps.getD b undef = u) : (results fn tmps).run P w = .ok (.tuple #[v, u]) w := by
  rw [Array.getD_eq_getD_getElem?] at hp hu
  simp [results, h, hp, hl, hu, asAddr]
structure AR (w W : World) (A B : Option Addr) (c bm bc : Nat) (wb g cw : Nat) : Prop where
  pl : W.heap[w.heap.size]? = some (.cells #[.int .i64 8, .int .i64 1, .slice A 2 c, .slice B bm bc] 33)
  rs : W.heap[w.heap.size + 1]? = some (.cells #[.int .i64 0, .int .i64 0, .int .i64 0, .int .i64 0, .slice none 0 0, .int .u32 0, .int .u32 0, .int .u32 0, .int .u64 0, .int .u64 0, .int .i64 0, .slice none 0 0, .slice none 0 0] 42)
  wx : W.heap[wb]? = some (.cells #[.slice (some ⟨g, 0, none⟩) 3 cw] 25)
  st : StrAt W (some ⟨g, 0, none⟩) [w1, w2, w3]
  hb : Below w.heap.size w W
theorem AR.below {w W W' : World} {A B : Option Addr} {c bm bc wb g cw : Nat} (h : AR w W A B c bm bc wb g cw) (hb : Below W.heap.size W W') : AR w W' A B c bm bc wb g cw :=
  ⟨krow h.pl hb, krow h.rs hb, krow h.wx hb, h.st.below hb, h.hb.trans (hb.mono h.hb.size)⟩
theorem ar_S {w W : World} {A B : Option Addr} {c bm bc wb g cw ab : Nat} (h : AR w W A B c bm bc wb g cw) (ha : W.heap[ab]? = some (.cells #[.int .i64 16, .int .i64 0, .int .i64 0, .int .i64 0, .slice none 0 0, .int .u32 0, .int .u32 0, .int .u32 0, .int .u64 0, .int .u64 0, .int .i64 0, .slice none 0 0, .slice none 0 0] 42)) : W.cell? ⟨w.heap.size, 0, none⟩ = some (.int .i64 8) ∧ W.cell? ⟨w.heap.size, 1, none⟩ = some (.int .i64 1) ∧ W.cell? ⟨w.heap.size, 2, none⟩ = some (.slice A 2 c) ∧ W.cell? ⟨w.heap.size, 3, none⟩ = some (.slice B bm bc) ∧ W.cell? ⟨wb, 0, none⟩ = some (.slice (some ⟨g, 0, none⟩) 3 cw) ∧ Aside0 (AR w W A B c bm bc wb g cw) ∧ Aside0 (W.heap[ab]? = some (.cells #[.int .i64 16, .int .i64 0, .int .i64 0, .int .i64 0, .slice none 0 0, .int .u32 0, .int .u32 0, .int .u32 0, .int .u64 0, .int .u64 0, .int .i64 0, .slice none 0 0, .slice none 0 0] 42)) :=
  ⟨blk_cell h.pl 0, blk_cell h.pl 1, blk_cell h.pl 2, blk_cell h.pl 3, blk_cell h.wx 0, ⟨h⟩, ⟨ha⟩⟩
def actA (d : Int) (pv : Value) : Array Value := #[.int .i64 16, .int .i64 d, .int .i64 0, .int .i64 0, .slice none 0 0, .int .u32 0, .int .u32 0, .int .u32 0, .int .u64 0, .int .u64 0, .int .i64 0, .slice none 0 0, pv]
structure LS (w wr : World) (A B : Option Addr) (c bm bc ab rg k pos : Nat) (l : List ByteArray) (d : Int) (pv : Value) : Prop where
  it : wr.heap[k]? = some (.stringIter ⟨#[100, 112]⟩ pos)
  rd : Rdr wr rg (.int .i64 8) (.int .i64 1) (.slice A 2 c) (.slice B bm bc) l
  ac : wr.heap[ab]? = some (.cells #[.int .i64 16, .int .i64 d, .int .i64 0, .int .i64 0, .slice none 0 0, .int .u32 0, .int .u32 0, .int .u32 0, .int .u64 0, .int .u64 0, .int .i64 0, .slice none 0 0, pv] 42)
  pl : wr.heap[w.heap.size]? = some (.cells #[.int .i64 8, .int .i64 1, .slice A 2 c, .slice B bm bc] 33)
  rs : wr.heap[w.heap.size + 1]? = some (.cells #[.int .i64 0, .int .i64 0, .int .i64 0, .int .i64 0, .slice none 0 0, .int .u32 0, .int .u32 0, .int .u32 0, .int .u64 0, .int .u64 0, .int .i64 0, .slice none 0 0, .slice none 0 0] 42)
  hb : Below w.heap.size w wr
  g1 : w.heap.size + 1 < ab
  g2 : rg = ab + 1
  g3 : rg < k
theorem row_step {W W' : World} {b x : Nat} {o : Obj} (h : W.heap[b]? = some o) (hg : W.grownBy W' (some x)) (hne : b ≠ x) : W'.heap[b]? = some o :=
  (hg.block b (Array.getElem?_eq_some_iff.1 h).1 (by simpa using hne)).trans h
theorem LS.iter {w wr : World} {A B : Option Addr} {c bm bc ab rg k pos : Nat} {l : List ByteArray} {d : Int} {pv : Value} (h : LS w wr A B c bm bc ab rg k pos l d pv) (m : Nat) : LS w (wr.iterAt k ⟨#[100, 112]⟩ m) A B c bm bc ab rg k m l d pv := by
  have g1 := h.g1; have g2 := h.g2; have g3 := h.g3
  have hg := iterAt_grown wr k ⟨#[100, 112]⟩ m
  exact ⟨Lib.iterAt_heap wr k _ pos m h.it, h.rd.step hg (fun x hx => by cases hx; exact ⟨by omega, fun cells fr he => by rw [h.it] at he; cases he⟩), row_step h.ac hg (by omega), row_step h.pl hg (by omega), row_step h.rs hg (by omega), Lib.below_iterAt h.hb (by omega) _ m, g1, g2, g3⟩
theorem LS.value {w wr wr' : World} {A B : Option Addr} {c bm bc ab rg k pos : Nat} {l l' : List ByteArray} {d : Int} {pv : Value} (h : LS w wr A B c bm bc ab rg k pos l d pv) (hr : Rdr wr' rg (.int .i64 8) (.int .i64 1) (.slice A 2 c) (.slice B bm bc) l') (hg : wr.grownBy wr' (some rg)) : LS w wr' A B c bm bc ab rg k pos l' d pv := by
  have g1 := h.g1; have g2 := h.g2; have g3 := h.g3
  exact ⟨row_step h.it hg (by omega), hr, row_step h.ac hg (by omega), row_step h.pl hg (by omega), row_step h.rs hg (by omega), h.hb.grown hg h.hb.size (fun x hx => by cases hx; omega), g1, g2, g3⟩
theorem LS.put {w wr : World} {A B : Option Addr} {c bm bc ab rg k pos : Nat} {l : List ByteArray} {d d' : Int} {pv pv' u : Value} (h : LS w wr A B c bm bc ab rg k pos l d pv) (i : Nat) (hac : (wr.setCell ⟨ab, i, none⟩ u).heap[ab]? = some (.cells (actA d' pv') 42)) : LS w (wr.setCell ⟨ab, i, none⟩ u) A B c bm bc ab rg k pos l d' pv' := by
  have g1 := h.g1; have g2 := h.g2; have g3 := h.g3
  have hg := setCell_grown wr ab i u
  exact ⟨row_step h.it hg (by omega), h.rd.step hg (fun x hx => by cases hx; exact ⟨by omega, fun cells fr he => by rw [h.ac] at he; cases he⟩), hac, row_step h.pl hg (by omega), row_step h.rs hg (by omega), h.hb.setCell (p := ⟨ab, i, none⟩) (by show _ ≤ ab; omega) _, g1, g2, g3⟩
theorem cellsBelow (W : World) (o : Obj) : Below W.heap.size W (W.alloc o) := (Below.refl _ _).alloc (Nat.le_refl _) _
def ActPost (w : World) (e : Ending) (w' : World) : Prop := ∃ v0 v1 v2 : Value, e = .returned (.tuple #[.agg #[.int .i64 16, .int .i64 1, .int .i64 0, .int .i64 0, v0, .int .u32 0, .int .u32 0, .int .u32 0, .int .u64 0, .int .u64 0, .int .i64 0, v1, v2], .int .i64 0]) ∧ Kd.R k72 72 w' w.heap.size (fun _ => True) v0 [] ∧ Kd.R (Kd.int .u8) 5 w' w.heap.size (fun _ => True) v1 [] ∧ Kd.R Kd.bool 4 w' w.heap.size (fun _ => True) v2 [true, false, true] ∧ Below w.heap.size w w'
set_option maxHeartbeats 4000000 in
set_option maxRecDepth 100000 in
theorem act_live (A B : Option Addr) (c bc : Nat) (w : World) (hA : Kd.C Kd.string w A 2 liveN) (hc : 2 ≤ c) (hT : Aside0 (Lib.Utf8Tabs 0 1 w)) :
    Calls Tryd.prog 18 #[.agg #[.int .i64 8, .int .i64 1, .slice A 2 c, .slice B 0 bc], .string liveT] w (ActPost w) := by
  have cw := Lib.hid (fun w => script_Words.calls liveT [w1, w2, w3] 0 w live_words)
  have ch := Lib.hid (fun w (h : Kd.C Kd.string w A 2 liveN) => c_headed 8 1 A c liveN B 0 bc w h hc (by decide) (fun i => by unfold liveN; match i with | 0 => decide | 1 => decide | (n + 2) => exact (by decide : (ByteArray.empty).size ≤ 140737488351232)))
  rw [show headedS 8 1 liveN = true by decide +kernel] at ch
  have cr := Lib.hid c_rows
  have ci := Lib.hid (@row_ix w1)
  rw [show rowI w1 = 16 by decide +kernel] at ci
  have HA := Aside0.mk hA
  clear hA
  have hst := fun w => rows_store w #[.string ⟨#[]⟩, .string ⟨#[]⟩, .string ⟨#[]⟩, .string ⟨#[]⟩, .string ⟨#[]⟩, .string ⟨#[]⟩, .string ⟨#[]⟩, .string ⟨#[]⟩, .string ⟨#[]⟩, .string ⟨#[]⟩, .string ⟨#[]⟩, .string ⟨#[]⟩, .string ⟨#[]⟩, .string ⟨#[]⟩, .string ⟨#[]⟩, .string ⟨#[]⟩, .string ⟨#[]⟩, .string ⟨#[]⟩, .string ⟨#[]⟩, .string ⟨#[]⟩, .string ⟨#[]⟩, .string ⟨#[]⟩, .string ⟨#[]⟩, .string ⟨#[]⟩, .string ⟨#[]⟩, .string ⟨#[]⟩, .string ⟨#[]⟩, .string ⟨#[]⟩, .string ⟨#[]⟩, .string ⟨#[]⟩, .string ⟨#[]⟩, .string ⟨#[]⟩, .string ⟨#[]⟩, .string ⟨#[]⟩, .string ⟨#[]⟩, .string ⟨#[]⟩] rfl
  have has := fun w => act_store w #[.int .i64 0, .int .i64 0, .int .i64 0, .int .i64 0, .slice none 0 0, .int .u32 0, .int .u32 0, .int .u32 0, .int .u64 0, .int .u64 0, .int .i64 0, .slice none 0 0, .slice none 0 0] #[.int .i64 16, .int .i64 0, .int .i64 0, .int .i64 0, .slice none 0 0, .int .u32 0, .int .u32 0, .int .u32 0, .int .u64 0, .int .u64 0, .int .i64 0, .slice none 0 0, .slice none 0 0] rfl rfl (by decide +kernel)
  go_enter Tryd.func18, Tryd.ntmps18
  have HP0 : Aside0 (((w.alloc (.cells #[.int .i64 8, .int .i64 1, .slice A 2 c, .slice B 0 bc] 33)).alloc (.cells #[.int .i64 0, .int .i64 0, .int .i64 0, .int .i64 0, .slice none 0 0, .int .u32 0, .int .u32 0, .int .u32 0, .int .u64 0, .int .u64 0, .int .i64 0, .slice none 0 0, .slice none 0 0] 42)).heap[w.heap.size]? = some (.cells #[.int .i64 8, .int .i64 1, .slice A 2 c, .slice B 0 bc] 33)) := ⟨knew (heap_alloc_new w _)⟩
  have HR0 : Aside0 (((w.alloc (.cells #[.int .i64 8, .int .i64 1, .slice A 2 c, .slice B 0 bc] 33)).alloc (.cells #[.int .i64 0, .int .i64 0, .int .i64 0, .int .i64 0, .slice none 0 0, .int .u32 0, .int .u32 0, .int .u32 0, .int .u64 0, .int .u64 0, .int .i64 0, .slice none 0 0, .slice none 0 0] 42)).heap[w.heap.size + 1]? = some (.cells #[.int .i64 0, .int .i64 0, .int .i64 0, .int .i64 0, .slice none 0 0, .int .u32 0, .int .u32 0, .int .u32 0, .int .u64 0, .int .u64 0, .int .i64 0, .slice none 0 0, .slice none 0 0] 42)) := ⟨by have h := heap_alloc_new (w.alloc (.cells #[.int .i64 8, .int .i64 1, .slice A 2 c, .slice B 0 bc] 33)) (.cells #[.int .i64 0, .int .i64 0, .int .i64 0, .int .i64 0, .slice none 0 0, .int .u32 0, .int .u32 0, .int .u32 0, .int .u64 0, .int .u64 0, .int .i64 0, .slice none 0 0, .slice none 0 0] 42); simpa using h⟩
  have HB0 := Aside0.mk (((Below.refl w.heap.size w).alloc (Nat.le_refl _) (.cells #[.int .i64 8, .int .i64 1, .slice A 2 c, .slice B 0 bc] 33)).alloc (by simp) (.cells #[.int .i64 0, .int .i64 0, .int .i64 0, .int .i64 0, .slice none 0 0, .int .u32 0, .int .u32 0, .int .u32 0, .int .u64 0, .int .u64 0, .int .i64 0, .slice none 0 0, .slice none 0 0] 42))
  go_wp2_with fail
  refine (cw.out _).mono ?_
  rintro e v1 ⟨wv, rfl, hR1, hb1⟩
  obtain ⟨g, cwp, rfl, hcw, hst1⟩ := str_row hR1 (by decide)
  have hcw3 : 3 ≤ cwp := hcw
  have HP1 := Aside0.mk (krow HP0.out hb1)
  have HS1 := Aside0.mk (krow HR0.out hb1)
  have HB1 := Aside0.mk (HB0.out.trans (hb1.mono HB0.out.size))
  have HAR : Aside0 (AR w (v1.alloc (.cells #[.slice (some ⟨g, 0, none⟩) 3 cwp] 25)) A B c 0 bc v1.heap.size g cwp) := ⟨⟨knew HP1.out, knew HS1.out, heap_alloc_new v1 _, hst1.below (cellsBelow _ _), HB1.out.alloc HB1.out.size _⟩⟩
  clear hR1 hb1 hst1 hcw cw HP0 HR0 HB0 HP1 HS1
  have p0 : ∀ o, (v1.alloc (.cells o 25)).cell? ⟨w.heap.size, 0, none⟩ = (v1.alloc (.cells o 25)).cell? ⟨w.heap.size, 0, none⟩ := fun _ => rfl
  clear p0
  have q0 : (v1.alloc (.cells #[.slice (some ⟨g, 0, none⟩) 3 cwp] 25)).cell? ⟨w.heap.size, 0, none⟩ = some (.int .i64 8) := blk_cell HAR.out.pl 0
  have q1 : (v1.alloc (.cells #[.slice (some ⟨g, 0, none⟩) 3 cwp] 25)).cell? ⟨w.heap.size, 1, none⟩ = some (.int .i64 1) := blk_cell HAR.out.pl 1
  have q2 : (v1.alloc (.cells #[.slice (some ⟨g, 0, none⟩) 3 cwp] 25)).cell? ⟨w.heap.size, 2, none⟩ = some (.slice A 2 c) := blk_cell HAR.out.pl 2
  have q3 : (v1.alloc (.cells #[.slice (some ⟨g, 0, none⟩) 3 cwp] 25)).cell? ⟨w.heap.size, 3, none⟩ = some (.slice B 0 bc) := blk_cell HAR.out.pl 3
  go_wp2_with fail
  refine (ch.out _ (Kd.C_below HA.out HAR.out.hb)).mono ?_
  rintro e v2 ⟨rfl, hb2⟩
  replace HAR := Aside0.mk (HAR.out.below hb2)
  clear hb2 q0 q1 q2 q3 ch
  go_wp2_with fail
  refine (cr.out _).mono ?_
  rintro e v3 ⟨rfl, hb3⟩
  replace HAR := Aside0.mk ((HAR.out.below hb3).below (cellsBelow v3 (.cells rowC 59)))
  clear hb3 cr
  go_wp2_with fail
  refine (ci.out _ v3.heap.size v1.heap.size g 0 3 cwp (heap_alloc_new v3 _) (blk_cell HAR.out.wx 0) (by decide) HAR.out.st.head).mono ?_
  rintro e v4 ⟨rfl, hb4⟩
  replace HAR := Aside0.mk (HAR.out.below hb4)
  clear hb4 ci
  have cs := Lib.hid (c_Has 16)
  have hs0 : (rowOf 16).2 = ⟨#[100, 112]⟩ := by decide +kernel
  rw [hs0] at cs
  have hcw1 : ¬ cwp = 1 := by omega
  have hcw2 : (1 : Int) ≤ (cwp : Int) := by omega
  clear hs0
  go_wp2_with fail
  refine wp_region_held_drew (S := (fun W => W.cell? ⟨w.heap.size, 0, none⟩ = some (.int .i64 8) ∧ W.cell? ⟨w.heap.size, 1, none⟩ = some (.int .i64 1) ∧ W.cell? ⟨w.heap.size, 2, none⟩ = some (.slice A 2 c) ∧ W.cell? ⟨w.heap.size, 3, none⟩ = some (.slice B 0 bc) ∧ W.cell? ⟨v1.heap.size, 0, none⟩ = some (.slice (some ⟨g, 0, none⟩) 3 cwp) ∧ Aside0 (AR w W A B c 0 bc v1.heap.size g cwp) ∧ Aside0 (W.heap[v4.heap.size]? = some (.cells #[.int .i64 16, .int .i64 0, .int .i64 0, .int .i64 0, .slice none 0 0, .int .u32 0, .int .u32 0, .int .u32 0, .int .u64 0, .int .u64 0, .int .i64 0, .slice none 0 0, .slice none 0 0] 42)))) (by kernel_rfl) ?_ (fun hHeld => ?_)
  · try dsimp only
    exact ar_S ((HAR.out.below (cellsBelow v4 (.cells #[.int .i64 16, .int .i64 0, .int .i64 0, .int .i64 0, .slice none 0 0, .int .u32 0, .int .u32 0, .int .u32 0, .int .u64 0, .int .u64 0, .int .i64 0, .slice none 0 0, .slice none 0 0] 42))).below ((Below.refl _ _).drew)) (heap_alloc_new v4 (.cells #[.int .i64 16, .int .i64 0, .int .i64 0, .int .i64 0, .slice none 0 0, .int .u32 0, .int .u32 0, .int .u32 0, .int .u64 0, .int .u64 0, .int .i64 0, .slice none 0 0, .slice none 0 0] 42))
  refine wpAnyH_take (i := 0) (v := ?_) rfl (by kernel_rfl) (by kernel_rfl) (by kernel_rfl) (fun _ _ _ h => h) (Or.inl ⟨by rfl, ?_⟩) (by assumption) ?_
  rotate_left
  · intro w hSw
    try dsimp only at hSw
    go_simp
    try with_reducible rfl
  try simp only [Act.put, List.setIfInBounds_toArray, List.set_cons_zero, List.set_cons_succ, List.getElem_toArray, List.getElem_cons_succ, List.getElem_cons_zero]
  refine wpAnyH_take (i := 1) (v := ?_) rfl (by kernel_rfl) (by kernel_rfl) (by kernel_rfl) (fun _ _ _ h => h) (Or.inl ⟨by rfl, ?_⟩) (by assumption) ?_
  rotate_left
  · intro w hSw
    try dsimp only at hSw
    go_simp
    try with_reducible rfl
  try simp only [Act.put, List.setIfInBounds_toArray, List.set_cons_zero, List.set_cons_succ, List.getElem_toArray, List.getElem_cons_succ, List.getElem_cons_zero]
  refine wpAnyH_take (i := 2) (v := ?_) rfl (by kernel_rfl) (by kernel_rfl) (by kernel_rfl) (fun _ _ _ h => h) (Or.inl ⟨by rfl, ?_⟩) (by assumption) ?_
  rotate_left
  · intro w hSw
    try dsimp only at hSw
    go_simp
    try with_reducible rfl
  try simp only [Act.put, List.setIfInBounds_toArray, List.set_cons_zero, List.set_cons_succ, List.getElem_toArray, List.getElem_cons_succ, List.getElem_cons_zero]
  refine wpAnyH_take (i := 3) (v := ?_) rfl (by kernel_rfl) (by kernel_rfl) (by kernel_rfl) (fun _ _ _ h => h) (Or.inl ⟨by rfl, ?_⟩) (by assumption) ?_
  rotate_left
  · intro w hSw
    try dsimp only at hSw
    go_simp
    try with_reducible rfl
  try simp only [Act.put, List.setIfInBounds_toArray, List.set_cons_zero, List.set_cons_succ, List.getElem_toArray, List.getElem_cons_succ, List.getElem_cons_zero]
  refine wpAnyH_ready (rs := [4]) (by kernel_rfl) (by simp) ?_
  refine AllReadyH.cons rfl (fun K hK => ?_) AllReadyH.nil
  go_simp
  refine hK.out _ _ ?_ ?_
  · try dsimp only
    exact ar_S (hHeld.2.2.2.2.2.1.out.below (cellsBelow _ _)) (knew hHeld.2.2.2.2.2.2.out)
  clear hHeld hK K
  intro hHeld
  try simp only [Act.put, List.setIfInBounds_toArray, List.set_cons_zero, List.set_cons_succ, List.getElem_toArray, List.getElem_cons_succ, List.getElem_cons_zero]
  refine wpAnyH_take (i := 5) (v := ?_) rfl (by kernel_rfl) (by kernel_rfl) (by kernel_rfl) (fun _ _ _ h => h) (Or.inl ⟨by rfl, ?_⟩) (by assumption) ?_
  rotate_left
  · intro w hSw
    try dsimp only at hSw
    go_simp
    try with_reducible rfl
  try simp only [Act.put, List.setIfInBounds_toArray, List.set_cons_zero, List.set_cons_succ, List.getElem_toArray, List.getElem_cons_succ, List.getElem_cons_zero]
  refine wpAnyH_done (by kernel_rfl) ?_ _
  have HAR6 := hHeld.2.2.2.2.2.1
  have HAC6 := hHeld.2.2.2.2.2.2
  have HRD6 : Aside0 (((v4.alloc (.cells #[.int .i64 16, .int .i64 0, .int .i64 0, .int .i64 0, .slice none 0 0, .int .u32 0, .int .u32 0, .int .u32 0, .int .u64 0, .int .u64 0, .int .i64 0, .slice none 0 0, .slice none 0 0] 42)).alloc (.cells #[.int .i64 8, .int .i64 1, .slice A 2 c, .slice B 0 bc, .slice (some ⟨g, 1, none⟩) 2 (cwp - 1)] 66)).drew.heap[v4.heap.size + 1]? = some (.cells #[.int .i64 8, .int .i64 1, .slice A 2 c, .slice B 0 bc, .slice (some ⟨g, 1, none⟩) 2 (cwp - 1)] 66)) := ⟨by have h := heap_alloc_new (v4.alloc (.cells #[.int .i64 16, .int .i64 0, .int .i64 0, .int .i64 0, .slice none 0 0, .int .u32 0, .int .u32 0, .int .u32 0, .int .u64 0, .int .u64 0, .int .i64 0, .slice none 0 0, .slice none 0 0] 42)) (.cells #[.int .i64 8, .int .i64 1, .slice A 2 c, .slice B 0 bc, .slice (some ⟨g, 1, none⟩) 2 (cwp - 1)] 66); rw [show (v4.alloc (.cells #[.int .i64 16, .int .i64 0, .int .i64 0, .int .i64 0, .slice none 0 0, .int .u32 0, .int .u32 0, .int .u32 0, .int .u64 0, .int .u64 0, .int .i64 0, .slice none 0 0, .slice none 0 0] 42)).heap.size = v4.heap.size + 1 by simp] at h; exact h⟩
  clear hHeld
  go_wp2_with fail
  refine (cs.out _).mono ?_
  rintro e v6 ⟨rfl, hb6⟩
  have HAR7 := Aside0.mk (HAR6.out.below hb6)
  have HAC7 := Aside0.mk (krow HAC6.out hb6)
  have HRD7 := Aside0.mk (krow HRD6.out hb6)
  have HG7 : Aside0 (w.heap.size + 1 < v4.heap.size ∧ v4.heap.size + 1 < v6.heap.size) := ⟨(Array.getElem?_eq_some_iff.1 HAR.out.rs).1, (Array.getElem?_eq_some_iff.1 HRD7.out).1⟩
  clear hb6 HAR6 HAC6 HRD6 HAR cs hst has hcw1 hcw2 HB1
  go_wp2
  have hn1 : nameI liveN w2 = 1 := by decide +kernel
  have hn2 : pickOf w3 = [true, false, true] := by decide +kernel
  have HN1 := Aside0.mk hn1
  have HN2 := Aside0.mk hn2
  clear hn1 hn2
  go_loopw [13] (fun v13 wr => ∃ (n : Nat) (l : List ByteArray) (d : Int) (pv : Value), ((n = 0 ∧ l = [w2, w3] ∧ d = 0 ∧ pv = .slice none 0 0) ∨ (n = 1 ∧ l = [w3] ∧ d = 1 ∧ pv = .slice none 0 0) ∨ (n = 2 ∧ l = [] ∧ d = 1 ∧ Aside0 (Kd.R Kd.bool 4 wr w.heap.size (fun _ => True) pv [true, false, true]))) ∧ Aside0 (LS w wr A B c 0 bc v4.heap.size (v4.heap.size + 1) v6.heap.size n l d pv)) (fun _ wr => 2 - wr.iterPos v6.heap.size)
  case atStart => exact ⟨0, [w2, w3], 0, .slice none 0 0, .inl ⟨rfl, rfl, rfl, rfl⟩, ⟨⟨iter_new v6 _, ⟨_, _, knew HRD7.out, by simp; omega, by simp, (HAR7.out.st.tail).below (cellsBelow _ _)⟩, knew HAC7.out, knew HAR7.out.pl, knew HAR7.out.rs, HAR7.out.hb.alloc HAR7.out.hb.size _, HG7.out.1, rfl, HG7.out.2⟩⟩⟩
  case round =>
    obtain ⟨n, l, d, pv, hn, HL⟩ := hrel
    rcases hn with ⟨rfl, rfl, rfl, rfl⟩ | ⟨rfl, rfl, rfl, rfl⟩ | ⟨rfl, rfl, rfl, HPK⟩
    · have hnx : ∀ ty, (Instr.next (.pointer (some ⟨v6.heap.size, 0, none⟩)) true ty).run Tryd.prog wr = .ok (.tuple #[.bool true, .int .i64 0, .int .i32 100]) (wr.iterAt v6.heap.size ⟨#[100, 112]⟩ 1) := fun ty => Lib.run_next_ascii_at (P := Tryd.prog) wr v6.heap.size ⟨#[100, 112]⟩ 0 ty HL.out.it (by decide) (by decide)
      have HLI := Aside0.mk (HL.out.iter 1)
      have HM : Aside0 (wr.iterPos v6.heap.size = 0) := ⟨iterPos_of HL.out.it⟩
      clear HL
      generalize wr.iterAt v6.heap.size ⟨#[100, 112]⟩ 1 = wi at *
      have hgr : ∀ W, wi.grownBy W (some (v4.heap.size + 1)) → Below w.heap.size w W := fun W hg => HLI.out.hb.grown hg HLI.out.hb.size (fun k hk => by cases hk; have := HG7.out; omega)
      have cv := Lib.hid (value_d wi (v4.heap.size + 1) _ _ (name_any wi (v4.heap.size + 1) (.int .i64 8) (.int .i64 1) (.slice B 0 bc) A c liveN [w2, w3] HLI.out.rd (fun W hg => ⟨Kd.C_below HA.out (hgr W hg), tabs_at hT (hgr W hg)⟩) hc (by decide) (fun i => by unfold liveN; match i with | 0 => decide | 1 => decide | (n + 2) => exact (by decide : (ByteArray.empty).size ≤ 17592186044416))))
      rw [show nameI liveN (List.headD [w2, w3] ⟨#[]⟩) = 1 from HN1.out] at cv
      clear hgr
      go_wp2_with fail
      refine cv.out.mono ?_
      rintro e v7 ⟨rfl, hr7, hg7⟩
      have HL7 := Aside0.mk (HLI.out.value hr7 hg7)
      clear hr7 hg7 cv HLI
      go_wp2_with fail
      refine (put_d v7 v4.heap.size (.int .i64 0) 1 (blk_cell HL7.out.ac 1) (blk_free HL7.out.ac 1)).mono ?_
      rintro e v8 ⟨rfl, rfl⟩
      have HL8 := Aside0.mk (HL7.out.put (d' := 1) (pv' := .slice none 0 0) 1 (blk_set HL7.out.ac 1 _))
      clear HL7
      go_wp2
      go_roundw
      case rel => exact ⟨1, [w3], 1, .slice none 0 0, .inr (.inl ⟨rfl, rfl, rfl, rfl⟩), HL8⟩
      case measure => rw [iterPos_of HL8.out.it, HM.out]; decide
    · have hnx : ∀ ty, (Instr.next (.pointer (some ⟨v6.heap.size, 0, none⟩)) true ty).run Tryd.prog wr = .ok (.tuple #[.bool true, .int .i64 1, .int .i32 112]) (wr.iterAt v6.heap.size ⟨#[100, 112]⟩ 2) := fun ty => Lib.run_next_ascii_at (P := Tryd.prog) wr v6.heap.size ⟨#[100, 112]⟩ 1 ty HL.out.it (by decide) (by decide)
      have HLI := Aside0.mk (HL.out.iter 2)
      have HM : Aside0 (wr.iterPos v6.heap.size = 1) := ⟨iterPos_of HL.out.it⟩
      clear HL
      generalize wr.iterAt v6.heap.size ⟨#[100, 112]⟩ 2 = wi at *
      have cv := Lib.hid (value_p wi (v4.heap.size + 1) (.int .i64 8) (.int .i64 1) (.slice A 2 c) (.slice B 0 bc) [w3] HLI.out.rd (by decide))
      go_wp2_with fail
      refine cv.out.mono ?_
      rintro e v7 ⟨pv, rfl, hp7, hr7, hg7⟩
      rw [show pickOf (List.headD [w3] ⟨#[]⟩) = [true, false, true] from HN2.out] at hp7
      have HL7 := Aside0.mk (HLI.out.value hr7 hg7)
      have HP7 := Aside0.mk (Kd.R_lower hp7 HLI.out.hb.size)
      obtain ⟨Ap, cp, rfl, _, _⟩ := Kd.R_reads hp7
      clear hr7 hg7 cv HLI hp7
      go_wp2_with fail
      refine (put_p v7 v4.heap.size (.slice none 0 0) _ Ap 3 cp (blk_cell HL7.out.ac 12) (blk_free HL7.out.ac 12) rfl).mono ?_
      rintro e v8 ⟨rfl, rfl⟩
      have HP8 := Aside0.mk (Kd.R_set HP7.out HL7.out.ac (by decide) 12 (.slice Ap 3 cp))
      have HL8 := Aside0.mk (HL7.out.put (d' := 1) (pv' := .slice Ap 3 cp) 12 (blk_set HL7.out.ac 12 _))
      clear HL7 HP7
      go_wp2
      go_roundw
      case rel => exact ⟨2, [], 1, _, .inr (.inr ⟨rfl, rfl, rfl, HP8⟩), HL8⟩
      case measure => rw [iterPos_of HL8.out.it, HM.out]; decide
    · have hnx := fun ty => Lib.run_next_end_at (P := Tryd.prog) wr v6.heap.size ⟨#[100, 112]⟩ 2 ty HL.out.it (by decide)
      obtain ⟨Ap, cp, rfl, hcp, hCp⟩ := Kd.R_reads HPK.out
      have HCP := Aside0.mk hCp
      clear hCp
      have p0_wr : wr.cell? ⟨w.heap.size, 0, none⟩ = some (.int .i64 8) := blk_cell HL.out.pl 0
      have p1_wr : wr.cell? ⟨w.heap.size, 1, none⟩ = some (.int .i64 1) := blk_cell HL.out.pl 1
      have p2_wr : wr.cell? ⟨w.heap.size, 2, none⟩ = some (.slice A 2 c) := blk_cell HL.out.pl 2
      have p3_wr : wr.cell? ⟨w.heap.size, 3, none⟩ = some (.slice B 0 bc) := blk_cell HL.out.pl 3
      have q0_wr : wr.cell? ⟨v4.heap.size, 0, none⟩ = some (.int .i64 16) := blk_cell HL.out.ac 0
      have q1_wr : wr.cell? ⟨v4.heap.size, 1, none⟩ = some (.int .i64 1) := blk_cell HL.out.ac 1
      have q2_wr : wr.cell? ⟨v4.heap.size, 2, none⟩ = some (.int .i64 0) := blk_cell HL.out.ac 2
      have q3_wr : wr.cell? ⟨v4.heap.size, 3, none⟩ = some (.int .i64 0) := blk_cell HL.out.ac 3
      have q4_wr : wr.cell? ⟨v4.heap.size, 4, none⟩ = some (.slice none 0 0) := blk_cell HL.out.ac 4
      have q5_wr : wr.cell? ⟨v4.heap.size, 5, none⟩ = some (.int .u32 0) := blk_cell HL.out.ac 5
      have q6_wr : wr.cell? ⟨v4.heap.size, 6, none⟩ = some (.int .u32 0) := blk_cell HL.out.ac 6
      have q7_wr : wr.cell? ⟨v4.heap.size, 7, none⟩ = some (.int .u32 0) := blk_cell HL.out.ac 7
      have q8_wr : wr.cell? ⟨v4.heap.size, 8, none⟩ = some (.int .u64 0) := blk_cell HL.out.ac 8
      have q9_wr : wr.cell? ⟨v4.heap.size, 9, none⟩ = some (.int .u64 0) := blk_cell HL.out.ac 9
      have q10_wr : wr.cell? ⟨v4.heap.size, 10, none⟩ = some (.int .i64 0) := blk_cell HL.out.ac 10
      have q11_wr : wr.cell? ⟨v4.heap.size, 11, none⟩ = some (.slice none 0 0) := blk_cell HL.out.ac 11
      have q12_wr : wr.cell? ⟨v4.heap.size, 12, none⟩ = some (.slice Ap 3 cp) := blk_cell HL.out.ac 12
      have C0 : ∀ W, Kd.C k42 W B 0 ([] : List S42) := fun W => ⟨rfl, by omega, fun h => absurd h (by omega)⟩
      have C1 : ∀ W, Kd.C k72 W none 0 ([] : List S72) := fun W => ⟨rfl, by omega, fun h => absurd h (by omega)⟩
      have C2 : ∀ W, Kd.C (Kd.int .u8) W none 0 ([] : List Int) := fun W => ⟨rfl, by omega, fun h => absurd h (by omega)⟩
      have cm := Lib.hid (script_may.calls 1 8 1 A c liveN B bc [] 16 1 0 0 none 0 [] 0 0 0 0 0 0 none 0 [] Ap cp [true, false, true] true wr (Kd.C_below HA.out HL.out.hb) hc (C0 wr) (Nat.zero_le _) (C1 wr) (Nat.le_refl _) (C2 wr) (Nat.le_refl _) HCP.out hcp live_may)
      have cl := Lib.hid (fun W (hw : Below wr.heap.size wr W) => script_line.calls 1 8 1 A c liveN B bc [] 16 1 0 0 none 0 [] 0 0 0 0 0 0 none 0 [] Ap cp [true, false, true] liveT W (Kd.C_below HA.out (HL.out.hb.trans (hw.mono HL.out.hb.size))) hc (C0 W) (Nat.zero_le _) (C1 W) (Nat.le_refl _) (C2 W) (Nat.le_refl _) (Kd.C_below HCP.out hw) hcp live_line (tabs_at hT (HL.out.hb.trans (hw.mono HL.out.hb.size))))
      clear C0 C1 C2
      go_wp2_with fail
      refine cm.out.mono ?_
      rintro e v9 ⟨rfl, hb9⟩
      have p0_v9 : v9.cell? ⟨w.heap.size, 0, none⟩ = some (.int .i64 8) := blk_cell (krow HL.out.pl hb9) 0
      have p1_v9 : v9.cell? ⟨w.heap.size, 1, none⟩ = some (.int .i64 1) := blk_cell (krow HL.out.pl hb9) 1
      have p2_v9 : v9.cell? ⟨w.heap.size, 2, none⟩ = some (.slice A 2 c) := blk_cell (krow HL.out.pl hb9) 2
      have p3_v9 : v9.cell? ⟨w.heap.size, 3, none⟩ = some (.slice B 0 bc) := blk_cell (krow HL.out.pl hb9) 3
      have q0_v9 : v9.cell? ⟨v4.heap.size, 0, none⟩ = some (.int .i64 16) := blk_cell (krow HL.out.ac hb9) 0
      have q1_v9 : v9.cell? ⟨v4.heap.size, 1, none⟩ = some (.int .i64 1) := blk_cell (krow HL.out.ac hb9) 1
      have q2_v9 : v9.cell? ⟨v4.heap.size, 2, none⟩ = some (.int .i64 0) := blk_cell (krow HL.out.ac hb9) 2
      have q3_v9 : v9.cell? ⟨v4.heap.size, 3, none⟩ = some (.int .i64 0) := blk_cell (krow HL.out.ac hb9) 3
      have q4_v9 : v9.cell? ⟨v4.heap.size, 4, none⟩ = some (.slice none 0 0) := blk_cell (krow HL.out.ac hb9) 4
      have q5_v9 : v9.cell? ⟨v4.heap.size, 5, none⟩ = some (.int .u32 0) := blk_cell (krow HL.out.ac hb9) 5
      have q6_v9 : v9.cell? ⟨v4.heap.size, 6, none⟩ = some (.int .u32 0) := blk_cell (krow HL.out.ac hb9) 6
      have q7_v9 : v9.cell? ⟨v4.heap.size, 7, none⟩ = some (.int .u32 0) := blk_cell (krow HL.out.ac hb9) 7
      have q8_v9 : v9.cell? ⟨v4.heap.size, 8, none⟩ = some (.int .u64 0) := blk_cell (krow HL.out.ac hb9) 8
      have q9_v9 : v9.cell? ⟨v4.heap.size, 9, none⟩ = some (.int .u64 0) := blk_cell (krow HL.out.ac hb9) 9
      have q10_v9 : v9.cell? ⟨v4.heap.size, 10, none⟩ = some (.int .i64 0) := blk_cell (krow HL.out.ac hb9) 10
      have q11_v9 : v9.cell? ⟨v4.heap.size, 11, none⟩ = some (.slice none 0 0) := blk_cell (krow HL.out.ac hb9) 11
      have q12_v9 : v9.cell? ⟨v4.heap.size, 12, none⟩ = some (.slice Ap 3 cp) := blk_cell (krow HL.out.ac hb9) 12
      go_wp2_with fail
      refine (cl.out _ hb9).mono ?_
      rintro e v10 ⟨rfl, hb10⟩
      have HS10 := Aside0.mk (krow (krow HL.out.rs hb9) hb10)
      have HB10 := Aside0.mk ((HL.out.hb.trans (hb9.mono HL.out.hb.size)).trans (hb10.mono (HL.out.hb.trans (hb9.mono HL.out.hb.size)).size))
      have HP10 := Aside0.mk (Kd.R_below (Kd.R_below HPK.out hb9) hb10)
      have q0_v10 : v10.cell? ⟨v4.heap.size, 0, none⟩ = some (.int .i64 16) := blk_cell (krow (krow HL.out.ac hb9) hb10) 0
      have q1_v10 : v10.cell? ⟨v4.heap.size, 1, none⟩ = some (.int .i64 1) := blk_cell (krow (krow HL.out.ac hb9) hb10) 1
      have q2_v10 : v10.cell? ⟨v4.heap.size, 2, none⟩ = some (.int .i64 0) := blk_cell (krow (krow HL.out.ac hb9) hb10) 2
      have q3_v10 : v10.cell? ⟨v4.heap.size, 3, none⟩ = some (.int .i64 0) := blk_cell (krow (krow HL.out.ac hb9) hb10) 3
      have q4_v10 : v10.cell? ⟨v4.heap.size, 4, none⟩ = some (.slice none 0 0) := blk_cell (krow (krow HL.out.ac hb9) hb10) 4
      have q5_v10 : v10.cell? ⟨v4.heap.size, 5, none⟩ = some (.int .u32 0) := blk_cell (krow (krow HL.out.ac hb9) hb10) 5
      have q6_v10 : v10.cell? ⟨v4.heap.size, 6, none⟩ = some (.int .u32 0) := blk_cell (krow (krow HL.out.ac hb9) hb10) 6
      have q7_v10 : v10.cell? ⟨v4.heap.size, 7, none⟩ = some (.int .u32 0) := blk_cell (krow (krow HL.out.ac hb9) hb10) 7
      have q8_v10 : v10.cell? ⟨v4.heap.size, 8, none⟩ = some (.int .u64 0) := blk_cell (krow (krow HL.out.ac hb9) hb10) 8
      have q9_v10 : v10.cell? ⟨v4.heap.size, 9, none⟩ = some (.int .u64 0) := blk_cell (krow (krow HL.out.ac hb9) hb10) 9
      have q10_v10 : v10.cell? ⟨v4.heap.size, 10, none⟩ = some (.int .i64 0) := blk_cell (krow (krow HL.out.ac hb9) hb10) 10
      have q11_v10 : v10.cell? ⟨v4.heap.size, 11, none⟩ = some (.slice none 0 0) := blk_cell (krow (krow HL.out.ac hb9) hb10) 11
      have q12_v10 : v10.cell? ⟨v4.heap.size, 12, none⟩ = some (.slice Ap 3 cp) := blk_cell (krow (krow HL.out.ac hb9) hb10) 12
      have HBT := Aside0.mk (Kd.R_types HP10.out HS10.out (by decide))
      clear hb9 hb10 cm cl HPK
      go_wp2_with (first
        | (refine wpList_store_row rfl 42 (.tmp 4) (.tmp 64) rfl (w.heap.size + 1) #[.int .i64 16, .int .i64 1, .int .i64 0, .int .i64 0, .slice none 0 0, .int .u32 0, .int .u32 0, .int .u32 0, .int .u64 0, .int .u64 0, .int .i64 0, .slice none 0 0, .slice Ap 3 cp] rfl rfl 42 _ HS10.out actC_info rfl (by simp [Value.oneCell']) ?_)
        | fail)
      refine bodyPost_ret (v := .tuple #[.agg #[.int .i64 16, .int .i64 1, .int .i64 0, .int .i64 0, .slice none 0 0, .int .u32 0, .int .u32 0, .int .u32 0, .int .u64 0, .int .u64 0, .int .i64 0, .slice none 0 0, .slice Ap 3 cp], .int .i64 0]) (results_cell2 Tryd.results18 _ _ _ (w.heap.size + 1) rfl _ (.int .i64 0) (run_loadVar_row _ (w.heap.size + 1) 42 42 _ (0, 0) _ (setRow_heap _ _ _ _ _ _ HS10.out) Tryd.underlying42 rfl actC_info) rfl) rfl ?_
      refine ⟨_, _, _, rfl, Kd.R_nil _ _ _ _ _, Kd.R_nil _ _ _ _ _, ?_, below_setRow HB10.out (by omega) _⟩
      exact Kd.R_mono (Kd.R_step HBT.out (fun k hk _ => setRow_other _ _ _ _ hk.2)) (fun _ _ => trivial)
/-- the act of the example; of no other line (the contract that 'live' asks) -/
def script_Act.f (a0_0 : Int) (a0_1 : Int) (l0_2 : List ByteArray) (l0_3 : List (S42)) (a1 : ByteArray) : Option (Int × Int × Int × Int × List (S72) × Int × Int × Int × Int × Int × Int × List Int × List Bool × Int) :=
  if a0_0 = 8 ∧ a0_1 = 1 ∧ l0_2 = liveN ∧ l0_3.length = 0 ∧ a1 = liveT then some (16, 1, 0, 0, [], 0, 0, 0, 0, 0, 0, [], [true, false, true], 0) else none
theorem script_Act.calls (a0_0 : Int) (a0_1 : Int) (A0_2 : Option Addr) (c0_2 : Nat) (l0_2 : List ByteArray) (A0_3 : Option Addr) (c0_3 : Nat) (l0_3 : List (S42)) (a1 : ByteArray) (r1 r2 r3 r4 : Int) (r5 : List (S72)) (r6 r7 r8 r9 r10 r11 : Int) (r12 : List Int) (r13 : List Bool) (r14 : Int) (w : World) (hr0_2 : Kd.C Kd.string w A0_2 l0_2.length l0_2) (hc0_2 : l0_2.length ≤ c0_2) (hr0_3 : Kd.C k42 w A0_3 l0_3.length l0_3) (hc0_3 : l0_3.length ≤ c0_3) (h : script_Act.f a0_0 a0_1 l0_2 l0_3 a1 = some (r1, r2, r3, r4, r5, r6, r7, r8, r9, r10, r11, r12, r13, r14)) (hT : Aside0 (Lib.Utf8Tabs 0 1 w) := by exact tabs_at HT (by repeat (first | (with_reducible first | exact HB.out | apply below_alloc | apply pw_below_drewN | apply below_drew1) | exact HB.out))) :
    Calls Tryd.prog 18 #[.agg #[.int .i64 a0_0, .int .i64 a0_1, .slice A0_2 l0_2.length c0_2, .slice A0_3 l0_3.length c0_3], .string a1] w fun e w' => ∃ v0_ v1_ v2_ : Value, e = .returned (.tuple #[.agg #[.int .i64 r1, .int .i64 r2, .int .i64 r3, .int .i64 r4, v0_, .int .u32 r6, .int .u32 r7, .int .u32 r8, .int .u64 r9, .int .u64 r10, .int .i64 r11, v1_, v2_], .int .i64 r14]) ∧ Kd.R k72 72 w' w.heap.size (fun _ => True) v0_ r5 ∧ Kd.R (Kd.int .u8) 5 w' w.heap.size (fun _ => True) v1_ r12 ∧ Kd.R Kd.bool 4 w' w.heap.size (fun _ => True) v2_ r13 ∧ Below w.heap.size w w' := by
  unfold script_Act.f at h
  by_cases h0 : a0_0 = 8 ∧ a0_1 = 1 ∧ l0_2 = liveN ∧ l0_3.length = 0 ∧ a1 = liveT
  · rw [if_pos h0] at h
    obtain ⟨rfl, rfl, rfl, hl, rfl⟩ := h0
    simp only [Option.some.injEq, Prod.mk.injEq] at h
    obtain ⟨rfl, rfl, rfl, rfl, rfl, rfl, rfl, rfl, rfl, rfl, rfl, rfl, rfl, rfl⟩ := h
    rw [hl]
    exact act_live A0_2 A0_3 c0_2 c0_3 w hr0_2 hc0_2 hT
  · rw [if_neg h0] at h; cases h
end Go.Proofs.YtpdinahdcedmkaaDoor.ExtQ

