/- script.put of a device and of marks. -/
import Derived.Test.YtpdinahdcedmkaaDoorSRead
namespace Go.Proofs.YtpdinahdcedmkaaDoor.Ext
set_option linter.unusedVariables false
set_option linter.unusedSimpArgs false
open Go.RowKit Go.Proofs.YtpdinahdcedmkaaDoorW.PrintWords Go.Proofs.YtpdinahdcedmkaaDoorW.PrintLast Go.Proofs.YtpdinahdcedmkaaDoorW.PrintMore
theorem as_int (v : Value) (w : World) : (Instr.typeAssert (.iface 3 v) 20 3 false).run Tryd.prog w = .ok v w := by kernel_rfl
theorem as_bools (v : Value) (w : World) : (Instr.typeAssert (.iface 40 v) 20 40 false).run Tryd.prog w = .ok v w := by kernel_rfl
set_option maxHeartbeats 2000000 in
set_option maxRecDepth 100000 in
theorem put_d (w : World) (ab : Nat) (u : Value) (n : Int) (h : w.cell? ⟨ab, 1, none⟩ = some u) (hf : w.frozen? ⟨ab, 1, none⟩ = false) :
    Calls Tryd.prog 29 #[.pointer (some ⟨ab, 0, none⟩), .int .i32 100, .iface 3 (.int .i64 n)] w fun e w' => e = .returned (.tuple #[]) ∧ w' = w.setCell ⟨ab, 1, none⟩ (.int .i64 n) := by
  have ha := as_int (.int .i64 n)
  go_enter Tryd.func29, Tryd.ntmps29
  go_wp2
  go_end0
  exact ⟨rfl, rfl⟩
set_option maxHeartbeats 2000000 in
set_option maxRecDepth 100000 in
theorem put_p (w : World) (ab : Nat) (u v : Value) (A : Option Addr) (n c : Nat) (h : w.cell? ⟨ab, 12, none⟩ = some u) (hf : w.frozen? ⟨ab, 12, none⟩ = false) (hv : v = .slice A n c) :
    Calls Tryd.prog 29 #[.pointer (some ⟨ab, 0, none⟩), .int .i32 112, .iface 40 v] w fun e w' => e = .returned (.tuple #[]) ∧ w' = w.setCell ⟨ab, 12, none⟩ v := by
  subst hv
  have ha := as_bools (.slice A n c)
  go_enter Tryd.func29, Tryd.ntmps29
  go_wp2
  go_end0
  exact ⟨rfl, rfl⟩
set_option maxHeartbeats 2000000 in
set_option maxRecDepth 100000 in
theorem value_d (w : World) (g : Nat) (X : Int) (Y : World → Prop) (h : Calls Tryd.prog 38 #[.pointer (some ⟨g, 0, none⟩)] w fun e w' => e = .returned (.int .i64 X) ∧ Y w') :
    Calls Tryd.prog 30 #[.pointer (some ⟨g, 0, none⟩), .int .i32 100] w fun e w' => e = .returned (.iface 3 (.int .i64 X)) ∧ Y w' := by
  have ch := Lib.hid h
  clear h
  go_enter Tryd.func30, Tryd.ntmps30
  go_wp2_with (first
    | (go_at_call 38
       refine ch.out.mono ?_
       rintro e v ⟨rfl, hy⟩
       have HY := Aside0.mk hy
       clear hy)
    | fail)
  go_ret
  exact ⟨rfl, HY.out⟩
/-- the marks of a text -/
def marksOf (l : List (Nat × Nat × Nat)) : List Bool := l.map fun x => decide (x.2.1 = 43)
def trimDot (s : ByteArray) : ByteArray := ⟨(Lib.trimPrefix s.data.toList (⟨#[46]⟩ : ByteArray).data.toList).toArray⟩
def pickOf (s : ByteArray) : List Bool := marksOf (runesOf (trimDot s))
theorem own_bool {w : World} {base : Nat} {v : Value} {l : List Bool} (h : w.ownsRow base 4 1 v l.length (l.map .bool)) : Kd.R Kd.bool 4 w base (fun _ => True) v l := by
  refine ⟨fun _ _ => trivial, l.map .bool, h, ?_, fun j p hj => ?_⟩
  · show _ = _ * 1
    simp
  · show ((l.map Value.bool).drop (j * 1)).take 1 = [Value.bool p]
    rw [Nat.mul_one]
    have hlt : j < l.length := by
      rcases Nat.lt_or_ge j l.length with h | h
      · exact h
      · rw [List.getElem?_eq_none h] at hj; cases hj
    rw [List.getElem?_eq_getElem hlt] at hj
    obtain rfl := Option.some.inj hj
    rw [List.drop_eq_getElem_cons (by simpa using hlt)]
    simp
theorem info_bool : (Tryd.prog.info? 4).map (fun i => (i.zero, i.size, i.bytes)) = some (some (.bool false), 1, 1) := by kernel_rfl
theorem StrAt.step {w w' : World} {A : Option Addr} {l : List ByteArray} {row : Option Nat} (h : StrAt w A l) (hg : w.grownBy w' row) (hrow : ∀ k, row = some k → ∀ cells fr, w.heap[k]? ≠ some (.cells cells 9 fr)) : StrAt w' A l := by
  refine ⟨fun hl => ?_⟩
  obtain ⟨b, i, cells, fr, h1, h2, h3⟩ := h.out hl
  have hb : some b ≠ row := fun e => hrow b e.symm _ _ h2
  have hk := hg.block b (Array.getElem?_eq_some_iff.1 h2).1 hb
  exact ⟨b, i, cells, fr, h1, hk.trans h2, fun j s hj => hg.cell (h3 j s hj) hb⟩
theorem Rdr.step {w w' : World} {g : Nat} {p0 p1 p2 p3 : Value} {l : List ByteArray} {row : Option Nat} (h : Rdr w g p0 p1 p2 p3 l) (hg : w.grownBy w' row) (hrow : ∀ k, row = some k → k ≠ g ∧ ∀ cells fr, w.heap[k]? ≠ some (.cells cells 9 fr)) : Rdr w' g p0 p1 p2 p3 l := by
  obtain ⟨A, c, h1, h2, h3, h4⟩ := h.out
  exact ⟨A, c, (hg.block g (Array.getElem?_eq_some_iff.1 h1).1 (fun e => (hrow g e.symm).1 rfl)).trans h1, h2, h3, h4.step hg (fun k hk => (hrow k hk).2)⟩
theorem grown_more {w W W' : World} {r r' : Option Nat} (h : w.grownBy W r) (hg : W.grownBy W' r') (hn : ∀ k, r' = some k → w.heap.size ≤ k) : w.grownBy W' r :=
  ⟨hg.os.trans h.os, hg.tape.trans h.tape, hg.output.trans h.output, Nat.le_trans h.size hg.size, fun k hk hne => (hg.block k (Nat.lt_of_lt_of_le hk h.size) (fun e => by have := hn k e.symm; omega)).trans (h.block k hk hne)⟩
theorem iterAt_grown (w : World) (k : Nat) (s : ByteArray) (p : Nat) : w.grownBy (w.iterAt k s p) (some k) :=
  ⟨rfl, rfl, rfl, by rw [Lib.iterAt_size]; exact Nat.le_refl _, fun i hi hne => Lib.iterAt_other w k i s p (fun e => hne (by rw [e]))⟩
def PickPost (w : World) (g : Nat) (p0 p1 p2 p3 : Value) (l : List ByteArray) (e : Ending) (w' : World) : Prop := ∃ v, e = .returned (.iface 40 v) ∧ Kd.R Kd.bool 4 w' w.heap.size (fun _ => True) v (pickOf (l.headD ⟨#[]⟩)) ∧ Rdr w' g p0 p1 p2 p3 l.tail ∧ w.grownBy w' (some g)
theorem PickPost.mk {w : World} {g : Nat} {p0 p1 p2 p3 : Value} {l t : List ByteArray} {s : ByteArray} {w' : World} {v : Value} {L : List Bool} (hs : l.headD ⟨#[]⟩ = s) (ht : l.tail = t) (hL : L = pickOf s) (hv : w'.ownsRow w.heap.size 4 1 v L.length (L.map .bool)) (hr : Rdr w' g p0 p1 p2 p3 t) (hg : w.grownBy w' (some g)) : PickPost w g p0 p1 p2 p3 l (.returned (.iface 40 v)) w' := by
  subst hs ht hL
  exact ⟨v, rfl, own_bool hv, hr, hg⟩
theorem trimDot_size (s : ByteArray) : (trimDot s).size ≤ s.size := by
  have : (Lib.trimPrefix s.data.toList (⟨#[46]⟩ : ByteArray).data.toList).length ≤ s.data.toList.length := by
    unfold Lib.trimPrefix
    split
    · rw [List.length_drop]; omega
    · exact Nat.le_refl _
  rw [Array.length_toList] at this
  unfold trimDot
  show (Lib.trimPrefix s.data.toList (⟨#[46]⟩ : ByteArray).data.toList).toArray.size ≤ _
  rw [List.size_toArray]
  exact this
set_option maxHeartbeats 4000000 in
set_option maxRecDepth 100000 in
theorem value_p (w : World) (g : Nat) (p0 p1 p2 p3 : Value) (l : List ByteArray) (h : Rdr w g p0 p1 p2 p3 l) (hz : (l.headD ⟨#[]⟩).size ≤ 1073741824) :
    Calls Tryd.prog 30 #[.pointer (some ⟨g, 0, none⟩), .int .i32 112] w (PickPost w g p0 p1 p2 p3 l) := by
  obtain ⟨i0, hi, hz0, hz1, hz2⟩ := info_parts info_bool
  have cn := Lib.hid (next_any w g p0 p1 p2 p3 l h)
  have hgw : g < w.heap.size := by obtain ⟨_, _, h1, _⟩ := h.out; exact (Array.getElem?_eq_some_iff.1 h1).1
  have HS : Aside0 (l.headD ⟨#[]⟩ = l.headD ⟨#[]⟩) := ⟨rfl⟩
  have HTL : Aside0 (l.tail = l.tail) := ⟨rfl⟩
  generalize hs : l.headD ⟨#[]⟩ = s at *
  generalize ht : l.tail = t at *
  replace HS := Aside0.mk hs
  replace HTL := Aside0.mk ht
  have ct := Lib.hid (fun w => Tryd.strings_TrimPrefix s ⟨#[46]⟩ w)
  have HDT := Aside0.mk (show (⟨(Lib.trimPrefix s.data.toList (⟨#[46]⟩ : ByteArray).data.toList).toArray⟩ : ByteArray) = trimDot s from rfl)
  have hTz := trimDot_size s
  have HPK := Aside0.mk (show marksOf (runesOf (trimDot s)) = pickOf s from rfl)
  rw [HDT.out] at ct
  generalize trimDot s = T at *
  clear h hs ht HDT
  go_enter Tryd.func30, Tryd.ntmps30
  go_wp2_with (first
    | (go_at_call 41
       refine cn.out.mono ?_
       rintro e v ⟨rfl, hr1, hg1⟩
       have HR1 := Aside0.mk hr1
       have HG1 := Aside0.mk hg1
       clear hr1 hg1 cn)
    | (go_at_call 43
       refine (ct.out _).mono ?_
       rintro e v2 ⟨rfl, hv⟩
       obtain rfl := hv.symm
       clear ct)
    | fail)
  go_loopw [11] (fun v11 wr => ∃ (pos fuel : Nat) (L : List Bool), wr.heap[v.heap.size]? = some (.stringIter T pos) ∧ Aside0 (wr.ownsRow w.heap.size 4 1 v11 L.length (L.map .bool)) ∧ Aside0 (L ++ marksOf (rns T fuel pos) = marksOf (runesOf T) ∧ T.size ≤ pos + fuel ∧ pos ≤ T.size) ∧ L.length ≤ pos ∧ Aside0 (Rdr wr g p0 p1 p2 p3 t) ∧ Aside0 (w.grownBy wr (some g))) (fun _ wr => T.size - wr.iterPos v.heap.size)
  case atStart => exact ⟨0, T.size, [], iter_new v T, ⟨World.ownsRow_nil _ _ _ _⟩, ⟨rfl, by omega, by omega⟩, by simp, ⟨HR1.out.below (below_iter v T)⟩, ⟨HG1.out.trans (grown_of_below (below_iter v T) _)⟩⟩
  case round =>
    obtain ⟨pos, fuel, L, hit, HO, HL, hLp, HR, HG⟩ := hrel
    have hvs := HG1.out.size
    by_cases hp : pos < T.size
    · have hw1 := Lib.decode_width_pos T pos hp
      have hwl := width_le T pos hp
      have hnx := fun ty => Lib.run_next_any_at (P := Tryd.prog) wr v.heap.size T pos ty hit hp
      obtain ⟨f2, hf2, he2⟩ := rns_step T fuel pos hp HL.out.2.1
      have HI := Aside0.mk (Lib.iterAt_heap wr v.heap.size T pos (pos + (Utf8.decode T pos).2) hit)
      have HM0 := iter_less hw1 hit hp
      have HMM : Aside0 (T.size - (pos + (Utf8.decode T pos).2) < T.size - wr.iterPos v.heap.size) := ⟨by rwa [iterPos_of HI.out] at HM0⟩
      have HOI := Aside0.mk (row_iterAt HO.out hit (pos + (Utf8.decode T pos).2))
      have HRI := Aside0.mk (HR.out.step (iterAt_grown wr v.heap.size T (pos + (Utf8.decode T pos).2)) (fun k hk => by cases hk; exact ⟨by omega, fun cells fr he => by rw [hit] at he; cases he⟩))
      have HGI := Aside0.mk (grown_more HG.out (iterAt_grown wr v.heap.size T (pos + (Utf8.decode T pos).2)) (fun k hk => by cases hk; exact hvs))
      have HL2 : Aside0 ((L ++ [decide ((Utf8.decode T pos).1 = 43)]) ++ marksOf (rns T f2 (pos + (Utf8.decode T pos).2)) = marksOf (runesOf T)) := ⟨by have := HL.out.1; rw [he2] at this; simpa [marksOf] using this⟩
      clear HM0 HO HR HG HL he2
      generalize hd : Utf8.decode T pos = d at *
      obtain ⟨r, wd⟩ := d
      simp only at *
      have hwl1 := hwl.1
      have HF := Aside0.mk hf2
      have t43 : ((r : Int) == 43) = decide (r = 43) := by by_cases h : r = 43 <;> simp [h]; omega
      have hgi := HGI.out.size
      clear hd hf2
      generalize decide (r = 43) = bb at *
      generalize hWI : wr.iterAt v.heap.size T (pos + wd) = wi at *
      go_wp2_with (first
        | (at_builtin
           refine wpList_append_own _ rfl _ _ 40 rfl w.heap.size 4 i0 _ 1 1 Tryd.underlying40 hi hz0 hz1 hz2 rfl (by decide) _ _ _ rfl (HOI.out.alloc _) ⟨wi.heap.size, 0, none⟩ 1 1 [.bool bb] rfl rfl (World.news_of_block (cs := #[.bool bb]) (t := 4) (fr := (0, 0)) (heap_alloc_new _ _)) (by simp [Value.oneCell']) (by simp only [maxLen]; omega) (by omega) (by simp; omega) ?_
           intro v3 w3 hown3 hg3 hx3
           clear hx3
           have HI3 := Aside0.mk (iter_grown (HOI.out.alloc _) hg3 (iter_alloc HI.out _))
           have HR3 := Aside0.mk (((HRI.out.below ((Below.refl _ _).alloc (Nat.le_refl _) _)).step hg3 (fun k hk => ⟨by have := own_base HOI.out k hk; omega, fun cells fr he => by obtain ⟨c3, h3⟩ := own_typed (HOI.out.alloc _) k hk; rw [h3] at he; cases he⟩)))
           have HG3 := Aside0.mk (grown_more (HGI.out.trans (World.grownBy_alloc wi _ _)) hg3 (fun k hk => own_base HOI.out k hk))
           have HO3 := Aside0.mk hown3
           clear hown3 hg3))
      go_roundw
      case rel => exact ⟨pos + wd, f2, L ++ [bb], HI3.out, ⟨by simpa using HO3.out⟩, ⟨HL2.out, HF.out, hwl1⟩, by simp; omega, HR3, HG3⟩
      case measure => rw [iterPos_of HI3.out]; exact HMM.out
    · have hnx := fun ty => Lib.run_next_end_at (P := Tryd.prog) wr v.heap.size T pos ty hit hp
      have HLL : Aside0 (L = pickOf s) := ⟨by have := HL.out.1; rw [rns_end T fuel pos hp] at this; rw [← HPK.out, ← this]; simp [marksOf]⟩
      go_wp2
      go_ret
      exact PickPost.mk HS.out HTL.out HLL.out HO.out HR.out HG.out
end Go.Proofs.YtpdinahdcedmkaaDoor.Ext
