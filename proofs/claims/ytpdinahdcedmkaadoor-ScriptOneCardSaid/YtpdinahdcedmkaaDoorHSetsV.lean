import Derived.Test.YtpdinahdcedmkaaDoorHVal
import Derived.Test.YtpdinahdcedmkaaDoorHCut
import Derived.Test.YtpdinahdcedmkaaDoorQSAct
/- script.reader.sets: what is left of words, as sets. -/
namespace Go.Proofs.YtpdinahdcedmkaaDoor.Ext
open Go.Proofs.YtpdinahdcedmkaaDoor.P
set_option linter.unusedVariables false
set_option linter.unusedSimpArgs false
open Go.RowKit Go.Proofs.YtpdinahdcedmkaaDoorW.PrintWords Go.Proofs.YtpdinahdcedmkaaDoorW.PrintLast Go.Proofs.YtpdinahdcedmkaaDoorW.PrintMore Go.Proofs.YtpdinahdcedmkaaDoor.Spec

theorem slash_lt (s : ByteArray) : slashI s < (s.size : Int) := by
  by_cases h : 0 ≤ slashI s
  · obtain ⟨i, hi⟩ := Int.eq_ofNat_of_zero_le h
    have h1 := (Lib.indexByte_some (o := i) (show Lib.indexByte s.data.toList 47 = (i : Int) from hi)).1
    have h2 := (List.getElem?_eq_some_iff.1 h1).1
    have h3 : s.data.toList.length = s.size := by rw [Array.length_toList]; rfl
    omega
  · omega
theorem slash_size (s : ByteArray) : (slashS s).1.size ≤ s.size ∧ (slashS s).2.size ≤ s.size := by
  unfold slashS
  split
  · simp only [ByteArray.size_extract]
    omega
  · exact ⟨Nat.le_refl _, Nat.zero_le _⟩
def lvOf (w : ByteArray) : Lv := ⟨(ExtP.codeS (slashS w).1).2.1, (ExtP.codeS (slashS w).2).2.1⟩
def xmssB : ByteArray := ⟨#[120, 109, 115, 115]⟩
/-- what words say of sets: kind, levels, XMSS -/
def setsR (l : List ByteArray) : Int × List Lv × Int := if l.headD ⟨#[]⟩ = xmssB then (2, [], (ExtP.codeS (l.tail.headD ⟨#[]⟩)).2.1) else (1, l.tail.map lvOf, 0)
def setsL (l : List ByteArray) : List ByteArray := if l.headD ⟨#[]⟩ = xmssB then l.tail.tail else []
theorem flat_lv : Flat k72 := fun w w' p c h => by rw [k72_open h]; exact k72_mk w' p
theorem info_lv : (Tryd.prog.info? 72).map (fun i => (i.zero, i.size, i.bytes)) = some (some (.agg #[.int .u32 0, .int .u32 0]), 2, 8) := by kernel_rfl
/-- what the walk of sets holds -/
structure SB (w W : World) (g : Nat) (p0 p1 p2 p3 : Value) (rest : List ByteArray) (kd xm : Int) (u : Value) : Prop where
  rd : ExtQ.Rdr W g p0 p1 p2 p3 rest
  rs : W.heap[w.heap.size]? = some (.cells #[.int .i64 0, .int .i64 0, .int .i64 0, .int .i64 0, .slice none 0 0, .int .u32 0, .int .u32 0, .int .u32 0, .int .u64 0, .int .u64 0, .int .i64 0, .slice none 0 0, .slice none 0 0] 42)
  ac : W.heap[w.heap.size + 1]? = some (.cells #[.int .i64 0, .int .i64 0, .int .i64 0, .int .i64 kd, u, .int .u32 xm, .int .u32 0, .int .u32 0, .int .u64 0, .int .u64 0, .int .i64 0, .slice none 0 0, .slice none 0 0] 42)
  gr : w.grownBy W (some g)
  lt : g < w.heap.size
section
variable {w W W' : World} {g : Nat} {p0 p1 p2 p3 : Value} {rest rest' : List ByteArray} {kd xm : Int} {u : Value}
theorem SB.below (h : SB w W g p0 p1 p2 p3 rest kd xm u) (hb : Below W.heap.size W W') : SB w W' g p0 p1 p2 p3 rest kd xm u :=
  ⟨h.rd.below hb, krow h.rs hb, krow h.ac hb, h.gr.trans (grown_of_below hb _), h.lt⟩
theorem SB.read (h : SB w W g p0 p1 p2 p3 rest kd xm u) (hr : ExtQ.Rdr W' g p0 p1 p2 p3 rest') (hg : W.grownBy W' (some g)) : SB w W' g p0 p1 p2 p3 rest' kd xm u := by
  have := h.lt
  exact ⟨hr, ExtQ.row_step h.rs hg (by omega), ExtQ.row_step h.ac hg (by omega), h.gr.trans hg, h.lt⟩
/-- a block further back is written -/
theorem SB.other (h : SB w W g p0 p1 p2 p3 rest kd xm u) {row : Option Nat} (hg : W.grownBy W' row) (hrow : ∀ k, row = some k → w.heap.size + 1 < k ∧ ∀ cells fr, W.heap[k]? ≠ some (.cells cells 9 fr)) : SB w W' g p0 p1 p2 p3 rest kd xm u := by
  have := h.lt
  refine ⟨h.rd.step hg (fun k hk => ⟨by have := (hrow k hk).1; omega, (hrow k hk).2⟩), ?_, ?_, ExtQ.grown_more h.gr hg (fun k hk => by have := (hrow k hk).1; omega), h.lt⟩
  · exact (hg.block _ (Array.getElem?_eq_some_iff.1 h.rs).1 (fun e => by have := (hrow _ e.symm).1; omega)).trans h.rs
  · exact (hg.block _ (Array.getElem?_eq_some_iff.1 h.ac).1 (fun e => by have := (hrow _ e.symm).1; omega)).trans h.ac
/-- the act's own block is written -/
theorem SB.own (h : SB w W g p0 p1 p2 p3 rest kd xm u) (i : Nat) (v : Value) {kd' xm' : Int} {u' : Value} (hac : (W.setCell ⟨w.heap.size + 1, i, none⟩ v).heap[w.heap.size + 1]? = some (.cells #[.int .i64 0, .int .i64 0, .int .i64 0, .int .i64 kd', u', .int .u32 xm', .int .u32 0, .int .u32 0, .int .u64 0, .int .u64 0, .int .i64 0, .slice none 0 0, .slice none 0 0] 42)) : SB w (W.setCell ⟨w.heap.size + 1, i, none⟩ v) g p0 p1 p2 p3 rest kd' xm' u' := by
  have hg := ExtQ.setCell_grown W (w.heap.size + 1) i v
  have := h.lt
  refine ⟨h.rd.step hg (fun k hk => by cases hk; exact ⟨by omega, fun cells fr he => by rw [h.ac] at he; cases he⟩), ?_, hac, ExtQ.grown_more h.gr hg (fun k hk => by cases hk; omega), h.lt⟩
  exact (hg.block _ (Array.getElem?_eq_some_iff.1 h.rs).1 (by simp)).trans h.rs
theorem setRow_grown (W : World) (k : Nat) (cs : Array Value) : W.grownBy (W.setRow k cs) (some k) := ⟨rfl, rfl, rfl, by simp [World.setRow], fun i _ hne => setRow_other W k i cs (fun e => hne (by rw [e]))⟩
theorem SB.fin (h : SB w W g p0 p1 p2 p3 rest kd xm u) (cs : Array Value) : ExtQ.Rdr (W.setRow w.heap.size cs) g p0 p1 p2 p3 rest ∧ w.grownBy (W.setRow w.heap.size cs) (some g) := by
  have hg := setRow_grown W w.heap.size cs
  have := h.lt
  exact ⟨h.rd.step hg (fun k hk => by cases hk; exact ⟨by omega, fun cells fr he => by rw [h.rs] at he; cases he⟩), ExtQ.grown_more h.gr hg (fun k hk => by cases hk; omega)⟩
end
/-- how many words a reader has -/
def rdLen (W : World) (g : Nat) : Nat := match W.cell? ⟨g, 4, none⟩ with
  | some (.slice _ n _) => n
  | _ => 0
theorem rdLen_of {W : World} {g : Nat} {p0 p1 p2 p3 : Value} {l : List ByteArray} (h : ExtQ.Rdr W g p0 p1 p2 p3 l) : rdLen W g = l.length := by
  obtain ⟨A, c, h1, _⟩ := h.out
  unfold rdLen
  rw [blk_cell h1 4]
  rfl
/-- sets' answer -/
def SetsPost (w : World) (g : Nat) (p0 p1 p2 p3 : Value) (l' : List ByteArray) (kd : Int) (ls : List Lv) (xm : Int) (e : Ending) (w' : World) : Prop := ∃ u, e = .returned (.agg #[.int .i64 0, .int .i64 0, .int .i64 0, .int .i64 kd, u, .int .u32 xm, .int .u32 0, .int .u32 0, .int .u64 0, .int .u64 0, .int .i64 0, .slice none 0 0, .slice none 0 0]) ∧ Held k72 72 w.heap.size w' u ls ∧ ExtQ.Rdr w' g p0 p1 p2 p3 l' ∧ w.grownBy w' (some g)
theorem results_cell1 {fn : Func} {a : Tmp} {t : TypeId} (h : fn.results = #[.cell a t]) (tmps : Array Value) (P : Program) (w : World) (g : Nat) (hp : tmps.getD a undef = .pointer (some ⟨g, 0, none⟩)) (v : Value) (hl : (loadVar t ⟨g, 0, none⟩).run P w = .ok v w) : (results fn tmps).run P w = .ok v w := by
  rw [Array.getD_eq_getD_getElem?] at hp
  simp [results, h, hp, hl, asAddr]
theorem actC_info2 : (Tryd.prog.info? 42).map (·.size) = some 13 := by kernel_rfl
set_option maxHeartbeats 8000000 in
set_option maxRecDepth 100000 in
theorem sets_x (w : World) (g : Nat) (p0 p1 p2 p3 : Value) (l : List ByteArray) (h : ExtQ.Rdr w g p0 p1 p2 p3 l) (hz : ∀ i, (l.getD i ⟨#[]⟩).size ≤ 1099511627776) (hx : l.headD ⟨#[]⟩ = xmssB) :
    Calls Tryd.prog 44 #[.pointer (some ⟨g, 0, none⟩)] w (SetsPost w g p0 p1 p2 p3 l.tail.tail 2 [] (ExtP.codeS (l.tail.headD ⟨#[]⟩)).2.1) := by
  have hlt : g < w.heap.size := by obtain ⟨_, _, h1, _⟩ := h.out; exact (Array.getElem?_eq_some_iff.1 h1).1
  have cn := Lib.hid (fun W (hW : ExtQ.Rdr W g p0 p1 p2 p3 l) => ExtQ.next_any W g p0 p1 p2 p3 l hW)
  have cm := Lib.hid (fun W (hW : ExtQ.Rdr W g p0 p1 p2 p3 l.tail) => ExtQ.next_any W g p0 p1 p2 p3 l.tail hW)
  have cc := Lib.hid (fun W => ExtP.c_Code (l.tail.headD ⟨#[]⟩) W (by have := hz 1; rcases l with _ | ⟨a, _ | ⟨b, t⟩⟩ <;> simp at this ⊢ <;> omega))
  have hst := act_store0 (.int .i64 0) (.int .i64 0) (.int .i64 0) (.int .i64 1) (.slice none 0 0) (.int .u32 0) (.int .u32 0) (.int .u32 0) (.int .u64 0) (.int .u64 0) (.int .i64 0) (.slice none 0 0) (.slice none 0 0) (by simp [Value.oneCell'])
  have HB0 : Aside0 (SB w ((w.alloc (.cells #[.int .i64 0, .int .i64 0, .int .i64 0, .int .i64 0, .slice none 0 0, .int .u32 0, .int .u32 0, .int .u32 0, .int .u64 0, .int .u64 0, .int .i64 0, .slice none 0 0, .slice none 0 0] 42)).alloc (.cells #[.int .i64 0, .int .i64 0, .int .i64 0, .int .i64 1, .slice none 0 0, .int .u32 0, .int .u32 0, .int .u32 0, .int .u64 0, .int .u64 0, .int .i64 0, .slice none 0 0, .slice none 0 0] 42)) g p0 p1 p2 p3 l 1 0 (.slice none 0 0)) := ⟨⟨(h.below (ExtQ.cellsBelow _ _)).below (ExtQ.cellsBelow _ _), knew (heap_alloc_new w _), by have := heap_alloc_new (w.alloc (.cells #[.int .i64 0, .int .i64 0, .int .i64 0, .int .i64 0, .slice none 0 0, .int .u32 0, .int .u32 0, .int .u32 0, .int .u64 0, .int .u64 0, .int .i64 0, .slice none 0 0, .slice none 0 0] 42)) (.cells #[.int .i64 0, .int .i64 0, .int .i64 0, .int .i64 1, .slice none 0 0, .int .u32 0, .int .u32 0, .int .u32 0, .int .u64 0, .int .u64 0, .int .i64 0, .slice none 0 0, .slice none 0 0] 42); simpa using this, (World.grownBy_alloc w _ _).trans (World.grownBy_alloc _ _ _), hlt⟩⟩
  have tx : (l.headD ⟨#[]⟩).toList = [120, 109, 115, 115] := by rw [hx]; decide +kernel
  generalize (ExtP.codeS (l.tail.headD ⟨#[]⟩)) = C at *
  clear h hz hx
  generalize l.headD ⟨#[]⟩ = s at *
  generalize l.tail = t at *
  generalize t.headD ⟨#[]⟩ = s2 at *
  generalize t.tail = t2 at *
  go_enter Tryd.func44, Tryd.ntmps44
  go_wp2_with (first
    | (go_at_call 41
       first
       | (with_reducible refine (cm.out _ HB1.out.rd).mono ?_
          rintro e v2 ⟨rfl, hr, hg⟩
          have HB2 := Aside0.mk (HB1.out.read hr hg)
          clear hr hg)
       | (with_reducible refine (cn.out _ HB0.out.rd).mono ?_
          rintro e v1 ⟨rfl, hr, hg⟩
          have HBa := Aside0.mk (HB0.out.read hr hg)
          have q3 := blk_cell HBa.out.ac 3
          have f3 := blk_free HBa.out.ac 3
          have HB1 := Aside0.mk (HBa.out.own (kd' := 2) (xm' := 0) (u' := .slice none 0 0) 3 (.int .i64 2) (blk_set HBa.out.ac 3 _))
          clear hr hg HBa))
    | (go_at_call 63
       with_reducible refine (cc.out _).mono ?_
       rintro e v3 ⟨rfl, hb⟩
       have HB3 := Aside0.mk (HB2.out.below hb)
       have q5 := blk_cell HB3.out.ac 5
       have f5 := blk_free HB3.out.ac 5
       have HB4 := Aside0.mk (HB3.out.own (kd' := 2) (xm' := C.2.1) (u' := .slice none 0 0) 5 (.int .u32 C.2.1) (blk_set HB3.out.ac 5 _))
       have k0 := blk_cell HB4.out.ac 0
       have k1 := blk_cell HB4.out.ac 1
       have k2 := blk_cell HB4.out.ac 2
       have k3 := blk_cell HB4.out.ac 3
       have k4 := blk_cell HB4.out.ac 4
       have k5 := blk_cell HB4.out.ac 5
       have k6 := blk_cell HB4.out.ac 6
       have k7 := blk_cell HB4.out.ac 7
       have k8 := blk_cell HB4.out.ac 8
       have k9 := blk_cell HB4.out.ac 9
       have k10 := blk_cell HB4.out.ac 10
       have k11 := blk_cell HB4.out.ac 11
       have k12 := blk_cell HB4.out.ac 12
       clear hb)
    | (refine wpList_store_row rfl 42 (.tmp 2) (.tmp 21) rfl w.heap.size #[.int .i64 0, .int .i64 0, .int .i64 0, .int .i64 2, .slice none 0 0, .int .u32 C.2.1, .int .u32 0, .int .u32 0, .int .u64 0, .int .u64 0, .int .i64 0, .slice none 0 0, .slice none 0 0] rfl rfl 42 _ HB4.out.rs actC_info2 rfl (by simp [Value.oneCell']) ?_)
    | fail)
  refine bodyPost_ret (v := .agg #[.int .i64 0, .int .i64 0, .int .i64 0, .int .i64 2, .slice none 0 0, .int .u32 C.2.1, .int .u32 0, .int .u32 0, .int .u64 0, .int .u64 0, .int .i64 0, .slice none 0 0, .slice none 0 0]) (results_cell1 Tryd.results44 _ _ _ w.heap.size rfl _ (run_loadVar_row _ w.heap.size 42 42 _ (0, 0) _ (setRow_heap _ _ _ _ _ _ HB4.out.rs) Tryd.underlying42 rfl actC_info2)) rfl ?_
  exact ⟨_, rfl, Held.nil _ _ _ _, (HB4.out.fin _).1, (HB4.out.fin _).2⟩
set_option maxHeartbeats 16000000 in
set_option maxRecDepth 100000 in
theorem sets_h (w : World) (g : Nat) (p0 p1 p2 p3 : Value) (l : List ByteArray) (h : ExtQ.Rdr w g p0 p1 p2 p3 l) (hz : ∀ s ∈ l, s.size ≤ 1099511627776) (hx : l.headD ⟨#[]⟩ ≠ xmssB) :
    Calls Tryd.prog 44 #[.pointer (some ⟨g, 0, none⟩)] w (SetsPost w g p0 p1 p2 p3 [] 1 (l.tail.map lvOf) 0) := by
  have hlt : g < w.heap.size := by obtain ⟨_, _, h1, _⟩ := h.out; exact (Array.getElem?_eq_some_iff.1 h1).1
  have hll : l.tail.length ≤ 1073741824 := by
    obtain ⟨_, _, _, _, h3, _⟩ := h.out
    rw [List.length_tail]
    omega
  have hzt : ∀ s ∈ l.tail, s.size ≤ 1099511627776 := fun s hs => hz s (List.mem_of_mem_tail hs)
  have cn := Lib.hid (fun W (hW : ExtQ.Rdr W g p0 p1 p2 p3 l) => ExtQ.next_any W g p0 p1 p2 p3 l hW)
  have cm := Lib.hid (fun W s t (hW : ExtQ.Rdr W g p0 p1 p2 p3 (s :: t)) => (show Calls Tryd.prog 41 #[.pointer (some ⟨g, 0, none⟩)] W fun e w' => e = .returned (.string s) ∧ (ExtQ.Rdr w' g p0 p1 p2 p3 t ∧ W.grownBy w' (some g)) from ExtQ.next_any W g p0 p1 p2 p3 (s :: t) hW))
  have hst := act_store0 (.int .i64 0) (.int .i64 0) (.int .i64 0) (.int .i64 1) (.slice none 0 0) (.int .u32 0) (.int .u32 0) (.int .u32 0) (.int .u64 0) (.int .u64 0) (.int .i64 0) (.slice none 0 0) (.slice none 0 0) (by simp [Value.oneCell'])
  have HB0 : Aside0 (SB w ((w.alloc (.cells #[.int .i64 0, .int .i64 0, .int .i64 0, .int .i64 0, .slice none 0 0, .int .u32 0, .int .u32 0, .int .u32 0, .int .u64 0, .int .u64 0, .int .i64 0, .slice none 0 0, .slice none 0 0] 42)).alloc (.cells #[.int .i64 0, .int .i64 0, .int .i64 0, .int .i64 1, .slice none 0 0, .int .u32 0, .int .u32 0, .int .u32 0, .int .u64 0, .int .u64 0, .int .i64 0, .slice none 0 0, .slice none 0 0] 42)) g p0 p1 p2 p3 l 1 0 (.slice none 0 0)) := ⟨⟨(h.below (ExtQ.cellsBelow _ _)).below (ExtQ.cellsBelow _ _), knew (heap_alloc_new w _), by have := heap_alloc_new (w.alloc (.cells #[.int .i64 0, .int .i64 0, .int .i64 0, .int .i64 0, .slice none 0 0, .int .u32 0, .int .u32 0, .int .u32 0, .int .u64 0, .int .u64 0, .int .i64 0, .slice none 0 0, .slice none 0 0] 42)) (.cells #[.int .i64 0, .int .i64 0, .int .i64 0, .int .i64 1, .slice none 0 0, .int .u32 0, .int .u32 0, .int .u32 0, .int .u64 0, .int .u64 0, .int .i64 0, .slice none 0 0, .slice none 0 0] 42); simpa using this, (World.grownBy_alloc w _ _).trans (World.grownBy_alloc _ _ _), hlt⟩⟩
  have tx : ¬ (l.headD ⟨#[]⟩).toList = [120, 109, 115, 115] := fun e => hx (Go.WideShapes.bytes_inj (by rw [ByteArray.toList_eq] at e; exact e))
  clear h hz hx
  generalize l.headD ⟨#[]⟩ = s0 at *
  have tb : (s0.toList == [120, 109, 115, 115]) = false := beq_eq_false_iff_ne.2 tx
  clear tx
  generalize l.tail = t0 at *
  go_enter Tryd.func44, Tryd.ntmps44
  go_wp2_with ((first
    | (go_at_call 41
       with_reducible refine (cn.out _ HB0.out.rd).mono ?_
       rintro e v1 ⟨rfl, hr, hg⟩
       have HBa := Aside0.mk (HB0.out.read hr hg)
       clear hr hg)
    | fail))
  go_loopw [27] (fun _ wr => ∃ (rest : List ByteArray) (L : List Lv) (u : Value), L.length + rest.length ≤ 1073741824 ∧ Aside0 (∀ s ∈ rest, s.size ≤ 1099511627776) ∧ Aside0 (L ++ rest.map lvOf = t0.map lvOf) ∧ Aside0 (SB w wr g p0 p1 p2 p3 rest 1 0 u) ∧ Aside0 (Kd.R k72 72 wr w.heap.size (fun k => w.heap.size + 1 < k) u L)) (fun _ wr => rdLen wr g)
  case atStart => exact ⟨t0, [], _, by simpa using hll, ⟨hzt⟩, ⟨rfl⟩, HBa, ⟨Kd.R_nil _ _ _ _ _⟩⟩
  case round =>
    clear HBa HB0 hst tb
    obtain ⟨rest, L, u, hlen, HZ, HL, HB, HR⟩ := hrel
    obtain ⟨Ar, cr, hrow, hcr, _, _⟩ := HB.out.rd.out
    have q4 : wr.cell? ⟨g, 4, none⟩ = some (.slice Ar rest.length cr) := blk_cell hrow 4
    have HML := Aside0.mk (rdLen_of HB.out.rd)
    have hsz : w.heap.size ≤ wr.heap.size := HB.out.gr.size
    clear hrow hcr
    cases rest with
    | nil =>
      have HE : Aside0 (L = t0.map lvOf) := ⟨by have := HL.out; simpa using this⟩
      obtain ⟨Au, cu, rfl, -, -⟩ := Kd.R_reads HR.out
      have HH := Aside0.mk (Held.of HR.out)
      have HRR := Aside0.mk (Kd.R_mono (Kd.R_types HR.out HB.out.rs (by decide)) (fun k hk => hk.2))
      have k0 := blk_cell HB.out.ac 0
      have k1 := blk_cell HB.out.ac 1
      have k2 := blk_cell HB.out.ac 2
      have k3 := blk_cell HB.out.ac 3
      have k4 := blk_cell HB.out.ac 4
      have k5 := blk_cell HB.out.ac 5
      have k6 := blk_cell HB.out.ac 6
      have k7 := blk_cell HB.out.ac 7
      have k8 := blk_cell HB.out.ac 8
      have k9 := blk_cell HB.out.ac 9
      have k10 := blk_cell HB.out.ac 10
      have k11 := blk_cell HB.out.ac 11
      have k12 := blk_cell HB.out.ac 12
      simp only [List.length_nil] at q4
      go_wp2_with (first
        | (refine wpList_store_row rfl 42 (.tmp 2) (.tmp 55) rfl w.heap.size #[.int .i64 0, .int .i64 0, .int .i64 0, .int .i64 1, .slice Au L.length cu, .int .u32 0, .int .u32 0, .int .u32 0, .int .u64 0, .int .u64 0, .int .i64 0, .slice none 0 0, .slice none 0 0] rfl rfl 42 _ HB.out.rs actC_info2 rfl (by simp [Value.oneCell']) ?_)
        | fail)
      refine bodyPost_ret (v := .agg #[.int .i64 0, .int .i64 0, .int .i64 0, .int .i64 1, .slice Au L.length cu, .int .u32 0, .int .u32 0, .int .u32 0, .int .u64 0, .int .u64 0, .int .i64 0, .slice none 0 0, .slice none 0 0]) (results_cell1 Tryd.results44 _ _ _ w.heap.size rfl _ (run_loadVar_row _ w.heap.size 42 42 _ (0, 0) _ (setRow_heap _ _ _ _ _ _ HB.out.rs) Tryd.underlying42 rfl actC_info2)) rfl ?_
      refine ⟨_, rfl, ?_, (HB.out.fin _).1, (HB.out.fin _).2⟩
      rw [← HE.out]
      exact HH.out.step flat_lv (setRow_grown _ _ _) (fun k hk cells fr he => by cases hk; rw [HB.out.rs] at he; cases he)
    | cons s t =>
      have hsl := HZ.out s (by simp)
      have c1 := Lib.hid (fun W => c_Cut s W (by omega) (slash_lt s))
      have hs2 := slash_size s
      have d1 := Lib.hid (fun W => ExtP.c_Code (slashS s).1 W (by omega))
      have d2 := Lib.hid (fun W => ExtP.c_Code (slashS s).2 W (by omega))
      have HLV : Aside0 (lvOf s = ⟨(ExtP.codeS (slashS s).1).2.1, (ExtP.codeS (slashS s).2).2.1⟩) := ⟨rfl⟩
      generalize ExtP.codeS (slashS s).1 = C1 at *
      generalize ExtP.codeS (slashS s).2 = C2 at *
      generalize slashS s = sl at *
      have hn0 : (0 : Int) < ((t.length : Int) + 1) := by omega
      have hLl : L.length + (t.length + 1) ≤ 1073741824 := by simpa using hlen
      simp only [List.length_cons] at q4
      clear hs2
      go_upto_region 11 with (first
        | (go_at_call 41
           with_reducible refine (cm.out _ _ _ HB.out.rd).mono ?_
           rintro e v1 ⟨rfl, hr, hg⟩
           have HB1 := Aside0.mk (HB.out.read hr hg)
           have HR1 := Aside0.mk (Kd.R_grown HR.out hg (fun k hk e => by cases e; omega))
           clear hr hg)
        | (go_at_call 64
           with_reducible refine (c1.out _).mono ?_
           rintro e v2 ⟨rfl, hb⟩
           have HB2 := Aside0.mk (HB1.out.below hb)
           have HR2 := Aside0.mk (Kd.R_mono (Kd.R_bound (Kd.R_below HR1.out hb)) (ok' := fun k => w.heap.size + 1 < k ∧ k < v2.heap.size) (fun k hk => ⟨hk.1, hk.2.2.1⟩))
           have hv2 : w.heap.size + 1 < v2.heap.size := (Array.getElem?_eq_some_iff.1 HB2.out.ac).1
           have HB2a := Aside0.mk (HB2.out.below (ExtQ.cellsBelow v2 (.cells #[.int .u32 0, .int .u32 0] 72)))
           have HR2a := Aside0.mk (Kd.R_below HR2.out (ExtQ.cellsBelow v2 (.cells #[.int .u32 0, .int .u32 0] 72)))
           have HV := Aside0.mk (heap_alloc_new v2 (.cells #[.int .u32 0, .int .u32 0] 72))
           clear hb)
        | (go_at_call 63
           first
           | (with_reducible refine (d1.out _).mono ?_
              rintro e v3 ⟨rfl, hb⟩
              have HB3 := Aside0.mk (HB2a.out.below hb)
              have HR3 := Aside0.mk (Kd.R_below HR2a.out hb)
              have HV3 := Aside0.mk (krow HV.out hb)
              have y0 := blk_cell HV3.out 0
              have z0 := blk_free HV3.out 0
              have HB4 := Aside0.mk (HB3.out.other (ExtQ.setCell_grown v3 v2.heap.size 0 (.int .u32 C1.2.1)) (fun k hk => by cases hk; exact ⟨hv2, fun cells fr he => by rw [HV3.out] at he; cases he⟩))
              have HR4 := Aside0.mk (Kd.R_far (p := ⟨v2.heap.size, 0, none⟩) HR3.out (fun k hk => Nat.ne_of_lt hk.2) (.int .u32 C1.2.1))
              have HV4 := Aside0.mk (blk_set HV3.out 0 (.int .u32 C1.2.1))
              clear hb)
           | (with_reducible refine (d2.out _).mono ?_
              rintro e v4 ⟨rfl, hb⟩
              have HB5 := Aside0.mk (HB4.out.below hb)
              have HR5 := Aside0.mk (Kd.R_below HR4.out hb)
              have HV5 := Aside0.mk (krow HV4.out hb)
              have y1 := blk_cell HV5.out 1
              have z1 := blk_free HV5.out 1
              have HB6 := Aside0.mk (HB5.out.other (ExtQ.setCell_grown v4 v2.heap.size 1 (.int .u32 C2.2.1)) (fun k hk => by cases hk; exact ⟨hv2, fun cells fr he => by rw [HV5.out] at he; cases he⟩))
              have HR6 := Aside0.mk (Kd.R_mono (Kd.R_far (p := ⟨v2.heap.size, 1, none⟩) HR5.out (fun k hk => Nat.ne_of_lt hk.2) (.int .u32 C2.2.1)) (ok' := fun k => w.heap.size + 1 < k) (fun k hk => hk.1))
              have HV6 := Aside0.mk (blk_set HV5.out 1 (.int .u32 C2.2.1))
              have x4 := blk_cell HB6.out.ac 4
              have m0 := blk_cell HV6.out 0
              have m1 := blk_cell HV6.out 1
              have hv6 : w.heap.size + 1 < (v4.setCell ⟨v2.heap.size, 1, none⟩ (.int .u32 C2.2.1)).heap.size := (Array.getElem?_eq_some_iff.1 HB6.out.ac).1
              clear hb))
        | fail)
      generalize v4.setCell ⟨v2.heap.size, 1, none⟩ (.int .u32 C2.2.1) = W6 at *
      clear q4 y0 z0 y1 z1 HV HB1 HR1 HB2 HR2 HB2a HR2a HB3 HR3 HV3 HB4 HR4 HV4 HB5 HR5 HV5
      go_wp2_with (first
        | ((with_reducible refine gate_builtin (b := .append) (xs := #[.tmp 50, .tmp 52]) rfl ?_)
           at_builtin
           refine Kd.R_append k72 (w0 := W6) w.heap.size rfl (.tmp 50) (.tmp 52) 34 72 (.agg #[.int .u32 0, .int .u32 0]) 8 rfl Tryd.underlying34 info_lv rfl (by decide) (by omega) u L ⟨C1.2.1, C2.2.1⟩ [.int .u32 C1.2.1, .int .u32 C2.2.1] (fun k => w.heap.size + 1 < k) (fun _ => False) rfl rfl (k72_mkM _ _ _ ⟨C1.2.1, C2.2.1⟩) (fun _ hk => hk.elim) (fun k hk => Nat.lt_of_lt_of_le hv6 hk) HR6.out (Below.refl _ _) (by omega) (by omega) ?_
           intro u7 w7 ho hb hg hat
           obtain ⟨A7, c7, rfl, -, -⟩ := Kd.R_reads ho
           rw [show (L ++ [(⟨C1.2.1, C2.2.1⟩ : Lv)]).length = L.length + 1 by simp] at ho
           have HR7 := Aside0.mk ho
           have HB7 := Aside0.mk (HB6.out.other hg (fun k hk => ⟨HR6.out.1 k hk, fun cells fr he => by obtain ⟨_, inner, hown, _⟩ := HR6.out; obtain ⟨c9, h9⟩ := own_typed hown k hk; rw [h9] at he; cases he⟩))
           have w4 := blk_cell HB7.out.ac 4
           have g4 := blk_free HB7.out.ac 4
           have HB8 := Aside0.mk (HB7.out.own (kd' := 1) (xm' := 0) (u' := .slice A7 (L.length + 1) c7) 4 (.slice A7 (L.length + 1) c7) (blk_set HB7.out.ac 4 _))
           have HR8 := Aside0.mk (Kd.R_far (p := ⟨w.heap.size + 1, 4, none⟩) HR7.out (fun k hk => Nat.ne_of_gt hk) (.slice A7 (L.length + 1) c7))
           clear ho hb hg hat)
        | fail)
      go_roundw
      case rel => exact ⟨t, L ++ [⟨C1.2.1, C2.2.1⟩], _, by simp; omega, ⟨fun s hs => HZ.out s (by simp [hs])⟩, ⟨by rw [← HL.out, List.map_cons, HLV.out]; simp⟩, HB8, HR8⟩
      case measure => rw [rdLen_of HB8.out.rd, HML.out]; simp
end Go.Proofs.YtpdinahdcedmkaaDoor.Ext

