import Derived.Test.YtpdinahdcedmkaaGreatDoorK12
import Derived.BigRegion
import Derived.Test.YtpdinahdcedmkaaGreatDoorK10
import Derived.Test.YtpdinahdcedmkaaGreatDoorK4
import Derived.Test.YtpdinahdcedmkaaGreatDoorK8
import Derived.Test.YtpdinahdcedmkaaGreatDoorK11
set_option linter.unusedVariables false
set_option linter.unusedSimpArgs false
set_option maxHeartbeats 4000000
set_option maxRecDepth 100000
/- script.put: what a letter's words say, put into an act; reader.value of sets. -/
namespace Go.Proofs.YtpdinahdcedmkaaGreatDoor.Ext
open Go.Proofs.YtpdinahdcedmkaaGreatDoor.P
open Go.RowKit YtpdinahdcedmkaaGreatDoorW.PrintWords YtpdinahdcedmkaaGreatDoorW.PrintLast YtpdinahdcedmkaaGreatDoorW.PrintMore Go.Proofs.YtpdinahdcedmkaaGreatDoor.Spec
theorem getD_le {l : List ByteArray} {n : Nat} (h : ∀ s ∈ l, s.size <= n) (i : Nat) : (l.getD i ⟨#[]⟩).size <= n := by
 rw [List.getD_eq_getElem?_getD]
 by_cases hi : i < l.length
 · rw [List.getElem?_eq_getElem hi]
   exact h _ (List.getElem_mem hi)
 · rw [List.getElem?_eq_none (by omega)]
   exact Nat.zero_le _
theorem as_i (v : Value) (w : World) : (Instr.typeAssert (.iface 3 v) 20 3 false).run Tryz.prog w = .ok v w := by kernel_rfl
theorem as_u32 (v : Value) (w : World) : (Instr.typeAssert (.iface 27 v) 20 27 false).run Tryz.prog w = .ok v w := by kernel_rfl
theorem as_by (v : Value) (w : World) : (Instr.typeAssert (.iface 31 v) 20 31 false).run Tryz.prog w = .ok v w := by kernel_rfl
theorem as_bo (v : Value) (w : World) : (Instr.typeAssert (.iface 32 v) 20 32 false).run Tryz.prog w = .ok v w := by kernel_rfl
theorem as_rg (v : Value) (w : World) : (Instr.typeAssert (.iface 30 v) 20 30 false).run Tryz.prog w = .ok v w := by kernel_rfl
theorem as_act (v : Value) (w : World) : (Instr.typeAssert (.iface 34 v) 20 34 false).run Tryz.prog w = .ok v w := by kernel_rfl
theorem put_d (w : World) (ab : Nat) (u : Value) (n : Int) (h : w.cell? ⟨ab, 1, none⟩ = some u) (hf : w.frozen? ⟨ab, 1, none⟩ = false) :
 Calls Tryz.prog 37 #[.pointer (some ⟨ab, 0, none⟩), .int .i32 100, .iface 3 (.int .i64 n)] w fun e w' => e = .returned (.tuple #[]) /\ w' = w.setCell ⟨ab, 1, none⟩ (.int .i64 n) := by
 have ha := as_i (.int .i64 n)
 go_enter Tryz.func37, Tryz.ntmps37
 go_wp2
 go_end0
 exact ⟨rfl, rfl⟩
theorem put_t (w : World) (ab : Nat) (u : Value) (n : Int) (h : w.cell? ⟨ab, 2, none⟩ = some u) (hf : w.frozen? ⟨ab, 2, none⟩ = false) :
 Calls Tryz.prog 37 #[.pointer (some ⟨ab, 0, none⟩), .int .i32 116, .iface 3 (.int .i64 n)] w fun e w' => e = .returned (.tuple #[]) /\ w' = w.setCell ⟨ab, 2, none⟩ (.int .i64 n) := by
 have ha := as_i (.int .i64 n)
 go_enter Tryz.func37, Tryz.ntmps37
 go_wp2
 go_end0
 exact ⟨rfl, rfl⟩
theorem put_k (w : World) (ab : Nat) (u : Value) (n : Int) (h : w.cell? ⟨ab, 6, none⟩ = some u) (hf : w.frozen? ⟨ab, 6, none⟩ = false) :
 Calls Tryz.prog 37 #[.pointer (some ⟨ab, 0, none⟩), .int .i32 107, .iface 27 (.int .u32 n)] w fun e w' => e = .returned (.tuple #[]) /\ w' = w.setCell ⟨ab, 6, none⟩ (.int .u32 n) := by
 have ha := as_u32 (.int .u32 n)
 go_enter Tryz.func37, Tryz.ntmps37
 go_wp2
 go_end0
 exact ⟨rfl, rfl⟩
theorem put_i (w : World) (ab : Nat) (u : Value) (n : Int) (h : w.cell? ⟨ab, 7, none⟩ = some u) (hf : w.frozen? ⟨ab, 7, none⟩ = false) :
 Calls Tryz.prog 37 #[.pointer (some ⟨ab, 0, none⟩), .int .i32 105, .iface 27 (.int .u32 n)] w fun e w' => e = .returned (.tuple #[]) /\ w' = w.setCell ⟨ab, 7, none⟩ (.int .u32 n) := by
 have ha := as_u32 (.int .u32 n)
 go_enter Tryz.func37, Tryz.ntmps37
 go_wp2
 go_end0
 exact ⟨rfl, rfl⟩
theorem put_b (w : World) (ab : Nat) (u : Value) (n : Int) (h : w.cell? ⟨ab, 10, none⟩ = some u) (hf : w.frozen? ⟨ab, 10, none⟩ = false) :
 Calls Tryz.prog 37 #[.pointer (some ⟨ab, 0, none⟩), .int .i32 98, .iface 3 (.int .i64 n)] w fun e w' => e = .returned (.tuple #[]) /\ w' = w.setCell ⟨ab, 10, none⟩ (.int .i64 n) := by
 have ha := as_i (.int .i64 n)
 go_enter Tryz.func37, Tryz.ntmps37
 go_wp2
 go_end0
 exact ⟨rfl, rfl⟩
theorem put_n (w : World) (ab : Nat) (u : Value) (n : Int) (h : w.cell? ⟨ab, 10, none⟩ = some u) (hf : w.frozen? ⟨ab, 10, none⟩ = false) :
 Calls Tryz.prog 37 #[.pointer (some ⟨ab, 0, none⟩), .int .i32 110, .iface 3 (.int .i64 n)] w fun e w' => e = .returned (.tuple #[]) /\ w' = w.setCell ⟨ab, 10, none⟩ (.int .i64 n) := by
 have ha := as_i (.int .i64 n)
 go_enter Tryz.func37, Tryz.ntmps37
 go_wp2
 go_end0
 exact ⟨rfl, rfl⟩
theorem put_w (w : World) (ab : Nat) (u : Value) (A : Option Addr) (n c : Nat) (h : w.cell? ⟨ab, 11, none⟩ = some u) (hf : w.frozen? ⟨ab, 11, none⟩ = false) :
 Calls Tryz.prog 37 #[.pointer (some ⟨ab, 0, none⟩), .int .i32 119, .iface 31 (.slice A n c)] w fun e w' => e = .returned (.tuple #[]) /\ w' = w.setCell ⟨ab, 11, none⟩ (.slice A n c) := by
 have ha := as_by (.slice A n c)
 go_enter Tryz.func37, Tryz.ntmps37
 go_wp2
 go_end0
 exact ⟨rfl, rfl⟩
theorem put_x (w : World) (ab : Nat) (u : Value) (A : Option Addr) (n c : Nat) (h : w.cell? ⟨ab, 11, none⟩ = some u) (hf : w.frozen? ⟨ab, 11, none⟩ = false) :
 Calls Tryz.prog 37 #[.pointer (some ⟨ab, 0, none⟩), .int .i32 120, .iface 31 (.slice A n c)] w fun e w' => e = .returned (.tuple #[]) /\ w' = w.setCell ⟨ab, 11, none⟩ (.slice A n c) := by
 have ha := as_by (.slice A n c)
 go_enter Tryz.func37, Tryz.ntmps37
 go_wp2
 go_end0
 exact ⟨rfl, rfl⟩
theorem put_m (w : World) (ab : Nat) (u : Value) (A : Option Addr) (n c : Nat) (h : w.cell? ⟨ab, 11, none⟩ = some u) (hf : w.frozen? ⟨ab, 11, none⟩ = false) :
 Calls Tryz.prog 37 #[.pointer (some ⟨ab, 0, none⟩), .int .i32 109, .iface 31 (.slice A n c)] w fun e w' => e = .returned (.tuple #[]) /\ w' = w.setCell ⟨ab, 11, none⟩ (.slice A n c) := by
 have ha := as_by (.slice A n c)
 go_enter Tryz.func37, Tryz.ntmps37
 go_wp2
 go_end0
 exact ⟨rfl, rfl⟩
theorem put_p (w : World) (ab : Nat) (u : Value) (A : Option Addr) (n c : Nat) (h : w.cell? ⟨ab, 12, none⟩ = some u) (hf : w.frozen? ⟨ab, 12, none⟩ = false) :
 Calls Tryz.prog 37 #[.pointer (some ⟨ab, 0, none⟩), .int .i32 112, .iface 32 (.slice A n c)] w fun e w' => e = .returned (.tuple #[]) /\ w' = w.setCell ⟨ab, 12, none⟩ (.slice A n c) := by
 have ha := as_bo (.slice A n c)
 go_enter Tryz.func37, Tryz.ntmps37
 go_wp2
 go_end0
 exact ⟨rfl, rfl⟩
theorem put_r (w : World) (ab : Nat) (u8 u9 : Value) (lo hi : Int) (h8 : w.cell? ⟨ab, 8, none⟩ = some u8) (h9 : w.cell? ⟨ab, 9, none⟩ = some u9) (hf8 : w.frozen? ⟨ab, 8, none⟩ = false) (hf9 : w.frozen? ⟨ab, 9, none⟩ = false) :
 Calls Tryz.prog 37 #[.pointer (some ⟨ab, 0, none⟩), .int .i32 114, .iface 30 (.agg #[.int .u64 lo, .int .u64 hi])] w fun e w' => e = .returned (.tuple #[]) /\ w' = (w.setCell ⟨ab, 8, none⟩ (.int .u64 lo)).setCell ⟨ab, 9, none⟩ (.int .u64 hi) := by
 have ha := as_rg (.agg #[.int .u64 lo, .int .u64 hi])
 go_enter Tryz.func37, Tryz.ntmps37
 go_wp2
 go_end0
 exact ⟨rfl, rfl⟩
theorem put_s (w : World) (ab : Nat) (u3 u4 u5 : Value) (kd xm : Int) (A : Option Addr) (n c : Nat) (h3 : w.cell? ⟨ab, 3, none⟩ = some u3) (h4 : w.cell? ⟨ab, 4, none⟩ = some u4) (h5 : w.cell? ⟨ab, 5, none⟩ = some u5) (hf3 : w.frozen? ⟨ab, 3, none⟩ = false) (hf4 : w.frozen? ⟨ab, 4, none⟩ = false) (hf5 : w.frozen? ⟨ab, 5, none⟩ = false) :
 Calls Tryz.prog 37 #[.pointer (some ⟨ab, 0, none⟩), .int .i32 115, .iface 34 (.agg #[.int .i64 0, .int .i64 0, .int .i64 0, .int .i64 kd, .slice A n c, .int .u32 xm, .int .u32 0, .int .u32 0, .int .u64 0, .int .u64 0, .int .i64 0, .slice none 0 0, .slice none 0 0])] w fun e w' => e = .returned (.tuple #[]) /\ w' = ((((w.setCell ⟨ab, 3, none⟩ (.int .i64 kd)).setCell ⟨ab, 4, none⟩ (.slice A n c)).setCell ⟨ab, 5, none⟩ (.int .u32 xm)).alloc (.cells #[.int .i64 0, .int .i64 0, .int .i64 0, .int .i64 kd, .slice A n c, .int .u32 xm, .int .u32 0, .int .u32 0, .int .u64 0, .int .u64 0, .int .i64 0, .slice none 0 0, .slice none 0 0] 34)).drew := by
 have ha := as_act (.agg #[.int .i64 0, .int .i64 0, .int .i64 0, .int .i64 kd, .slice A n c, .int .u32 xm, .int .u32 0, .int .u32 0, .int .u64 0, .int .u64 0, .int .i64 0, .slice none 0 0, .slice none 0 0])
 have hst := act_store0 (.int .i64 0) (.int .i64 0) (.int .i64 0) (.int .i64 kd) (.slice A n c) (.int .u32 xm) (.int .u32 0) (.int .u32 0) (.int .u64 0) (.int .u64 0) (.int .i64 0) (.slice none 0 0) (.slice none 0 0) (by simp [Value.oneCell'])
 have hab : ab < w.heap.size := World.block_lt_of_cell? w _ h3
 go_enter Tryz.func37, Tryz.ntmps37
 go_upto_region 2 with fail
 go_region
 go_wp2
 go_end0
 exact ⟨rfl, rfl⟩
theorem value_s (w : World) (g : Nat) (p0 p1 p2 p3 : Value) (l : List ByteArray) (h : ExtQ.Rdr w g p0 p1 p2 p3 l) (hz : ∀ s ∈ l, s.size <= 1099511627776) :
 Calls Tryz.prog 38 #[.pointer (some ⟨g, 0, none⟩), .int .i32 115] w (VPost w g p0 p1 p2 p3 (setsL l) fun v w' => ∃ u, v = .iface 34 (.agg #[.int .i64 0, .int .i64 0, .int .i64 0, .int .i64 (setsR l).1, u, .int .u32 (setsR l).2.2, .int .u32 0, .int .u32 0, .int .u64 0, .int .u64 0, .int .i64 0, .slice none 0 0, .slice none 0 0]) /\ Held k74 74 w.heap.size w' u (setsR l).2.1) := by
 have cs : Calls Tryz.prog 84 #[.pointer (some ⟨g, 0, none⟩)] w (SetsPost w g p0 p1 p2 p3 (setsL l) (setsR l).1 (setsR l).2.1 (setsR l).2.2) := by
  unfold setsL setsR
  by_cases hx : l.headD ⟨#[]⟩ = xmssB
  · rw [if_pos hx, if_pos hx]
    exact sets_x w g p0 p1 p2 p3 l h (fun i => getD_le hz i) hx
  · rw [if_neg hx, if_neg hx]
    exact sets_h w g p0 p1 p2 p3 l h hz hx
 have cs := Lib.hid cs
 generalize setsL l = l2 at *
 generalize (setsR l).1 = kd at *
 generalize (setsR l).2.1 = ls at *
 generalize (setsR l).2.2 = xm at *
 clear h hz
 go_enter Tryz.func38, Tryz.ntmps38
 go_wp2_with (first
  | (go_at_call 84
     refine cs.out.mono ?_
     rintro e v ⟨u, rfl, hh, hr1, hg1⟩
     have HH := Zz.mk hh
     have HR1 := Zz.mk hr1
     have HG1 := Zz.mk hg1
     clear hr1 hg1 hh)
  | fail)
 go_ret
 exact ⟨_, rfl, ⟨_, rfl, HH.out⟩, HR1.out, HG1.out⟩
def putS (nl : List ByteArray) (c : Int) (l : List ByteArray) (x : Act) : Act × List ByteArray :=
 if c = 100 then ({ x with f1 := ExtQ.nameI nl (l.headD ⟨#[]⟩) }, l.tail) else
 if c = 116 then ({ x with f2 := ExtQ.nameI nl (l.headD ⟨#[]⟩) }, l.tail) else
 if c = 107 then ({ x with f6 := min (ExtQ.numOf (l.headD ⟨#[]⟩)) 4294967295 }, l.tail) else
 if c = 105 then ({ x with f7 := min (ExtQ.numOf (l.headD ⟨#[]⟩)) 4294967295 }, l.tail) else
 if c = 98 then ({ x with f9 := min (ExtQ.numOf (l.headD ⟨#[]⟩)) 2147483648 }, l.tail) else
 if c = 110 then ({ x with f9 := min (ExtQ.numOf (l.headD ⟨#[]⟩)) 2147483648 }, l.tail) else
 if c = 119 then ({ x with f10 := (unhexS (l.headD ⟨#[]⟩)).1 }, l.tail) else
 if c = 120 then ({ x with f10 := (unhexS (l.headD ⟨#[]⟩)).1 }, l.tail) else
 if c = 109 then ({ x with f10 := bytesOf (unqS (l.headD ⟨#[]⟩)).1 }, l.tail) else
 if c = 114 then ({ x with f8 := ⟨ExtQ.numOf (l.headD ⟨#[]⟩), ExtQ.numOf (l.tail.headD ⟨#[]⟩)⟩ }, l.tail.tail) else
 if c = 115 then ({ x with f3 := (setsR l).1, f4 := (setsR l).2.1, f5 := (setsR l).2.2 }, setsL l) else
 ({ x with f11 := ExtQ.pickOf (l.headD ⟨#[]⟩) }, l.tail)
structure AB (p : Plan) (B2 : Option Addr) (d2 : Nat) (B3 : Option Addr) (d3 : Nat) (w W : World) (ab g : Nat) (l : List ByteArray) (x : Act) (u4 u11 u12 : Value) : Prop where
 rd : ExtQ.Rdr W g (.int .i64 p.f0) (.int .i64 p.f1) (.slice B2 p.f2.length d2) (.slice B3 p.f3.length d3) l
 ac : W.heap[ab]? = some (.cells #[.int .i64 x.f0, .int .i64 x.f1, .int .i64 x.f2, .int .i64 x.f3, u4, .int .u32 x.f5, .int .u32 x.f6, .int .u32 x.f7, .int .u64 x.f8.f0, .int .u64 x.f8.f1, .int .i64 x.f9, u11, u12] 34)
 pl : W.heap[w.heap.size]? = some (.cells #[.int .i64 p.f0, .int .i64 p.f1, .slice B2 p.f2.length d2, .slice B3 p.f3.length d3] 25)
 rs : W.heap[w.heap.size + 1]? = some (.cells #[.int .i64 0, .int .i64 0, .int .i64 0, .int .i64 0, .slice none 0 0, .int .u32 0, .int .u32 0, .int .u32 0, .int .u64 0, .int .u64 0, .int .i64 0, .slice none 0 0, .slice none 0 0] 34)
 hb : Below w.heap.size w W
 h4 : Held k74 74 w.heap.size W u4 x.f4
 h11 : Held (Kd.int .u8) 5 w.heap.size W u11 x.f10
 h12 : Held Kd.bool 4 w.heap.size W u12 x.f11
 g1 : w.heap.size + 1 < ab
 g2 : ab < g
theorem headD_le {l : List ByteArray} {n : Nat} (h : ∀ s ∈ l, s.size <= n) : (l.headD ⟨#[]⟩).size <= n := by
 cases l with
 | nil => exact Nat.zero_le _
 | cons a t => exact h a (by simp)
section
variable {p : Plan} {B2 : Option Addr} {d2 : Nat} {B3 : Option Addr} {d3 : Nat} {w W W' : World} {ab g : Nat} {l l' : List ByteArray} {x x' : Act} {u4 u11 u12 u4' u11' u12' : Value}
theorem AB.kept (h : AB p B2 d2 B3 d3 w W ab g l x u4 u11 u12) {row : Option Nat} (hg : W.grownBy W' row) (hrow : ∀ k, row = some k -> ab < k /\ ∀ cells fr, W.heap[k]? ≠ some (.cells cells 74 fr) /\ W.heap[k]? ≠ some (.cells cells 5 fr) /\ W.heap[k]? ≠ some (.cells cells 4 fr)) (hr : ExtQ.Rdr W' g (.int .i64 p.f0) (.int .i64 p.f1) (.slice B2 p.f2.length d2) (.slice B3 p.f3.length d3) l') : AB p B2 d2 B3 d3 w W' ab g l' x u4 u11 u12 := by
 have g1 := h.g1
 have g2 := h.g2
 refine ⟨hr, ?_, ?_, ?_, h.hb.grown hg h.hb.size (fun k hk => by have := (hrow k hk).1; omega), h.h4.step flat_lv hg (fun k hk c f => ((hrow k hk).2 c f).1), h.h11.step (flat_int _) hg (fun k hk c f => ((hrow k hk).2 c f).2.1), h.h12.step flat_bool hg (fun k hk c f => ((hrow k hk).2 c f).2.2), h.g1, h.g2⟩
 · exact (hg.block _ (Array.getElem?_eq_some_iff.1 h.ac).1 (fun e => by have := (hrow _ e.symm).1; omega)).trans h.ac
 · exact (hg.block _ (Array.getElem?_eq_some_iff.1 h.pl).1 (fun e => by have := (hrow _ e.symm).1; omega)).trans h.pl
 · exact (hg.block _ (Array.getElem?_eq_some_iff.1 h.rs).1 (fun e => by have := (hrow _ e.symm).1; omega)).trans h.rs
theorem AB.value (h : AB p B2 d2 B3 d3 w W ab g l x u4 u11 u12) (hr : ExtQ.Rdr W' g (.int .i64 p.f0) (.int .i64 p.f1) (.slice B2 p.f2.length d2) (.slice B3 p.f3.length d3) l') (hg : W.grownBy W' (some g)) : AB p B2 d2 B3 d3 w W' ab g l' x u4 u11 u12 := by
 obtain ⟨A, c, hrow, _⟩ := h.rd.out
 exact h.kept hg (fun k hk => by cases hk; exact ⟨h.g2, fun cells fr => ⟨fun he => (by rw [hrow] at he; cases he), fun he => (by rw [hrow] at he; cases he), fun he => (by rw [hrow] at he; cases he)⟩⟩) hr
theorem AB.below (h : AB p B2 d2 B3 d3 w W ab g l x u4 u11 u12) (hb : Below W.heap.size W W') : AB p B2 d2 B3 d3 w W' ab g l x u4 u11 u12 := h.kept (grown_of_below hb none) (fun k hk => by cases hk) (h.rd.below hb)
theorem AB.set (h : AB p B2 d2 B3 d3 w W ab g l x u4 u11 u12) (hg : W.grownBy W' (some ab)) (hac : W'.heap[ab]? = some (.cells #[.int .i64 x'.f0, .int .i64 x'.f1, .int .i64 x'.f2, .int .i64 x'.f3, u4', .int .u32 x'.f5, .int .u32 x'.f6, .int .u32 x'.f7, .int .u64 x'.f8.f0, .int .u64 x'.f8.f1, .int .i64 x'.f9, u11', u12'] 34))
 (h4 : Held k74 74 w.heap.size W u4' x'.f4) (h11 : Held (Kd.int .u8) 5 w.heap.size W u11' x'.f10) (h12 : Held Kd.bool 4 w.heap.size W u12' x'.f11) : AB p B2 d2 B3 d3 w W' ab g l x' u4' u11' u12' := by
 have g1 := h.g1
 have g2 := h.g2
 refine ⟨h.rd.step hg (fun k hk => (by cases hk; exact ⟨by omega, fun cells fr he => (by rw [h.ac] at he; cases he)⟩)), hac, ?_, ?_, h.hb.grown hg h.hb.size (fun k hk => by cases hk; omega), h4.step flat_lv hg (fun k hk cells fr he => (by cases hk; rw [h.ac] at he; cases he)), h11.step (flat_int _) hg (fun k hk cells fr he => (by cases hk; rw [h.ac] at he; cases he)), h12.step flat_bool hg (fun k hk cells fr he => (by cases hk; rw [h.ac] at he; cases he)), h.g1, h.g2⟩
 · exact (hg.block _ (Array.getElem?_eq_some_iff.1 h.pl).1 (by simp; omega)).trans h.pl
 · exact (hg.block _ (Array.getElem?_eq_some_iff.1 h.rs).1 (by simp; omega)).trans h.rs
end
def Ready (p : Plan) (B2 : Option Addr) (d2 : Nat) (B3 : Option Addr) (d3 : Nat) (w W : World) (ab g : Nat) (c : Int) (y : Act × List ByteArray) (v : Value) : Prop :=
 Calls Tryz.prog 37 #[.pointer (some ⟨ab, 0, none⟩), .int .i32 c, v] W fun e W' => e = .returned (.tuple #[]) /\ W.grownBy W' (some ab) /\ ∃ u4 u11 u12, AB p B2 d2 B3 d3 w W' ab g y.2 y.1 u4 u11 u12
def ValuePost (p : Plan) (B2 : Option Addr) (d2 : Nat) (B3 : Option Addr) (d3 : Nat) (w W : World) (ab g : Nat) (c : Int) (y : Act × List ByteArray) (e : Ending) (W' : World) : Prop := ∃ v, e = .returned v /\ W.grownBy W' (some g) /\ Ready p B2 d2 B3 d3 w W' ab g c y v
theorem step_k (p : Plan) (B2 : Option Addr) (d2 : Nat) (B3 : Option Addr) (d3 : Nat) (w W : World) (ab g : Nat) (l : List ByteArray) (x : Act) (u4 u11 u12 : Value) (h : AB p B2 d2 B3 d3 w W ab g l x u4 u11 u12) (hz : ∀ s ∈ l, s.size <= 1073741824) : Calls Tryz.prog 38 #[.pointer (some ⟨g, 0, none⟩), .int .i32 107] W (ValuePost p B2 d2 B3 d3 w W ab g 107 ({ x with f6 := min (ExtQ.numOf (l.headD ⟨#[]⟩)) 4294967295 }, l.tail)) := by
 have hd := headD_le hz
 refine (value_k W g _ _ _ _ l h.rd (by omega)).mono ?_
 rintro e W' ⟨v, rfl, rfl, hr, hg⟩
 have hA := h.value hr hg
 refine ⟨_, rfl, hg, (put_k W' ab _ _ (blk_cell hA.ac 6) (blk_free hA.ac 6)).mono ?_⟩
 rintro e W2 ⟨rfl, rfl⟩
 exact ⟨rfl, ExtQ.setCell_grown _ _ _ _, _, _, _, hA.set (ExtQ.setCell_grown _ _ _ _) (blk_set hA.ac 6 _) hA.h4 hA.h11 hA.h12⟩
theorem step_i (p : Plan) (B2 : Option Addr) (d2 : Nat) (B3 : Option Addr) (d3 : Nat) (w W : World) (ab g : Nat) (l : List ByteArray) (x : Act) (u4 u11 u12 : Value) (h : AB p B2 d2 B3 d3 w W ab g l x u4 u11 u12) (hz : ∀ s ∈ l, s.size <= 1073741824) : Calls Tryz.prog 38 #[.pointer (some ⟨g, 0, none⟩), .int .i32 105] W (ValuePost p B2 d2 B3 d3 w W ab g 105 ({ x with f7 := min (ExtQ.numOf (l.headD ⟨#[]⟩)) 4294967295 }, l.tail)) := by
 have hd := headD_le hz
 refine (value_i W g _ _ _ _ l h.rd (by omega)).mono ?_
 rintro e W' ⟨v, rfl, rfl, hr, hg⟩
 have hA := h.value hr hg
 refine ⟨_, rfl, hg, (put_i W' ab _ _ (blk_cell hA.ac 7) (blk_free hA.ac 7)).mono ?_⟩
 rintro e W2 ⟨rfl, rfl⟩
 exact ⟨rfl, ExtQ.setCell_grown _ _ _ _, _, _, _, hA.set (ExtQ.setCell_grown _ _ _ _) (blk_set hA.ac 7 _) hA.h4 hA.h11 hA.h12⟩
theorem step_b (p : Plan) (B2 : Option Addr) (d2 : Nat) (B3 : Option Addr) (d3 : Nat) (w W : World) (ab g : Nat) (l : List ByteArray) (x : Act) (u4 u11 u12 : Value) (h : AB p B2 d2 B3 d3 w W ab g l x u4 u11 u12) (hz : ∀ s ∈ l, s.size <= 1073741824) : Calls Tryz.prog 38 #[.pointer (some ⟨g, 0, none⟩), .int .i32 98] W (ValuePost p B2 d2 B3 d3 w W ab g 98 ({ x with f9 := min (ExtQ.numOf (l.headD ⟨#[]⟩)) 2147483648 }, l.tail)) := by
 have hd := headD_le hz
 refine (value_b W g _ _ _ _ l h.rd (by omega)).mono ?_
 rintro e W' ⟨v, rfl, rfl, hr, hg⟩
 have hA := h.value hr hg
 refine ⟨_, rfl, hg, (put_b W' ab _ _ (blk_cell hA.ac 10) (blk_free hA.ac 10)).mono ?_⟩
 rintro e W2 ⟨rfl, rfl⟩
 exact ⟨rfl, ExtQ.setCell_grown _ _ _ _, _, _, _, hA.set (ExtQ.setCell_grown _ _ _ _) (blk_set hA.ac 10 _) hA.h4 hA.h11 hA.h12⟩
theorem step_n (p : Plan) (B2 : Option Addr) (d2 : Nat) (B3 : Option Addr) (d3 : Nat) (w W : World) (ab g : Nat) (l : List ByteArray) (x : Act) (u4 u11 u12 : Value) (h : AB p B2 d2 B3 d3 w W ab g l x u4 u11 u12) (hz : ∀ s ∈ l, s.size <= 1073741824) : Calls Tryz.prog 38 #[.pointer (some ⟨g, 0, none⟩), .int .i32 110] W (ValuePost p B2 d2 B3 d3 w W ab g 110 ({ x with f9 := min (ExtQ.numOf (l.headD ⟨#[]⟩)) 2147483648 }, l.tail)) := by
 have hd := headD_le hz
 refine (value_n W g _ _ _ _ l h.rd (by omega)).mono ?_
 rintro e W' ⟨v, rfl, rfl, hr, hg⟩
 have hA := h.value hr hg
 refine ⟨_, rfl, hg, (put_n W' ab _ _ (blk_cell hA.ac 10) (blk_free hA.ac 10)).mono ?_⟩
 rintro e W2 ⟨rfl, rfl⟩
 exact ⟨rfl, ExtQ.setCell_grown _ _ _ _, _, _, _, hA.set (ExtQ.setCell_grown _ _ _ _) (blk_set hA.ac 10 _) hA.h4 hA.h11 hA.h12⟩
theorem step_d (p : Plan) (B2 : Option Addr) (d2 : Nat) (B3 : Option Addr) (d3 : Nat) (w W : World) (ab g : Nat) (l : List ByteArray) (x : Act) (u4 u11 u12 : Value) (h : AB p B2 d2 B3 d3 w W ab g l x u4 u11 u12) (hz : ∀ s ∈ l, s.size <= 1073741824) (hC : Kd.C Kd.string w B2 p.f2.length p.f2) (hc : p.f2.length <= d2) (hl : p.f2.length <= 1048576) (hn : ∀ i, (p.f2.getD i ByteArray.empty).size <= 17592186044416) (hT : Lib.Utf8Tabs 1 2 w) : Calls Tryz.prog 38 #[.pointer (some ⟨g, 0, none⟩), .int .i32 100] W (ValuePost p B2 d2 B3 d3 w W ab g 100 ({ x with f1 := ExtQ.nameI p.f2 (l.headD ⟨#[]⟩) }, l.tail)) := by
 have hd := headD_le hz
 refine (value_d W g _ _ _ B2 d2 p.f2 l h.rd (fun W2 hg2 => ⟨Kd.C_below hC (h.hb.grown hg2 h.hb.size (fun k hk => by cases hk; have := h.g1; have := h.g2; omega)), ⟨Utf8Tabs_below hT (h.hb.grown hg2 h.hb.size (fun k hk => by cases hk; have := h.g1; have := h.g2; omega))⟩⟩) hc hl hn).mono ?_
 rintro e W' ⟨v, rfl, rfl, hr, hg⟩
 have hA := h.value hr hg
 refine ⟨_, rfl, hg, (put_d W' ab _ _ (blk_cell hA.ac 1) (blk_free hA.ac 1)).mono ?_⟩
 rintro e W2 ⟨rfl, rfl⟩
 exact ⟨rfl, ExtQ.setCell_grown _ _ _ _, _, _, _, hA.set (ExtQ.setCell_grown _ _ _ _) (blk_set hA.ac 1 _) hA.h4 hA.h11 hA.h12⟩
theorem step_t (p : Plan) (B2 : Option Addr) (d2 : Nat) (B3 : Option Addr) (d3 : Nat) (w W : World) (ab g : Nat) (l : List ByteArray) (x : Act) (u4 u11 u12 : Value) (h : AB p B2 d2 B3 d3 w W ab g l x u4 u11 u12) (hz : ∀ s ∈ l, s.size <= 1073741824) (hC : Kd.C Kd.string w B2 p.f2.length p.f2) (hc : p.f2.length <= d2) (hl : p.f2.length <= 1048576) (hn : ∀ i, (p.f2.getD i ByteArray.empty).size <= 17592186044416) (hT : Lib.Utf8Tabs 1 2 w) : Calls Tryz.prog 38 #[.pointer (some ⟨g, 0, none⟩), .int .i32 116] W (ValuePost p B2 d2 B3 d3 w W ab g 116 ({ x with f2 := ExtQ.nameI p.f2 (l.headD ⟨#[]⟩) }, l.tail)) := by
 have hd := headD_le hz
 refine (value_t W g _ _ _ B2 d2 p.f2 l h.rd (fun W2 hg2 => ⟨Kd.C_below hC (h.hb.grown hg2 h.hb.size (fun k hk => by cases hk; have := h.g1; have := h.g2; omega)), ⟨Utf8Tabs_below hT (h.hb.grown hg2 h.hb.size (fun k hk => by cases hk; have := h.g1; have := h.g2; omega))⟩⟩) hc hl hn).mono ?_
 rintro e W' ⟨v, rfl, rfl, hr, hg⟩
 have hA := h.value hr hg
 refine ⟨_, rfl, hg, (put_t W' ab _ _ (blk_cell hA.ac 2) (blk_free hA.ac 2)).mono ?_⟩
 rintro e W2 ⟨rfl, rfl⟩
 exact ⟨rfl, ExtQ.setCell_grown _ _ _ _, _, _, _, hA.set (ExtQ.setCell_grown _ _ _ _) (blk_set hA.ac 2 _) hA.h4 hA.h11 hA.h12⟩
theorem step_w (p : Plan) (B2 : Option Addr) (d2 : Nat) (B3 : Option Addr) (d3 : Nat) (w W : World) (ab g : Nat) (l : List ByteArray) (x : Act) (u4 u11 u12 : Value) (h : AB p B2 d2 B3 d3 w W ab g l x u4 u11 u12) (hz : ∀ s ∈ l, s.size <= 1073741824) : Calls Tryz.prog 38 #[.pointer (some ⟨g, 0, none⟩), .int .i32 119] W (ValuePost p B2 d2 B3 d3 w W ab g 119 ({ x with f10 := (unhexS (l.headD ⟨#[]⟩)).1 }, l.tail)) := by
 have hd := headD_le hz
 refine (value_w W g _ _ _ _ l h.rd (by omega)).mono ?_
 rintro e W' ⟨v, rfl, ⟨u, rfl, hu⟩, hr, hg⟩
 have hA := h.value hr hg
 have hu' := hu.lower h.hb.size
 obtain ⟨A, c, rfl, -, -, -⟩ := hu.out
 refine ⟨_, rfl, hg, (put_w W' ab _ A _ c (blk_cell hA.ac 11) (blk_free hA.ac 11)).mono ?_⟩
 rintro e W2 ⟨rfl, rfl⟩
 exact ⟨rfl, ExtQ.setCell_grown _ _ _ _, _, _, _, hA.set (ExtQ.setCell_grown _ _ _ _) (blk_set hA.ac 11 _) hA.h4 hu' hA.h12⟩
theorem step_x (p : Plan) (B2 : Option Addr) (d2 : Nat) (B3 : Option Addr) (d3 : Nat) (w W : World) (ab g : Nat) (l : List ByteArray) (x : Act) (u4 u11 u12 : Value) (h : AB p B2 d2 B3 d3 w W ab g l x u4 u11 u12) (hz : ∀ s ∈ l, s.size <= 1073741824) : Calls Tryz.prog 38 #[.pointer (some ⟨g, 0, none⟩), .int .i32 120] W (ValuePost p B2 d2 B3 d3 w W ab g 120 ({ x with f10 := (unhexS (l.headD ⟨#[]⟩)).1 }, l.tail)) := by
 have hd := headD_le hz
 refine (value_x W g _ _ _ _ l h.rd (by omega)).mono ?_
 rintro e W' ⟨v, rfl, ⟨u, rfl, hu⟩, hr, hg⟩
 have hA := h.value hr hg
 have hu' := hu.lower h.hb.size
 obtain ⟨A, c, rfl, -, -, -⟩ := hu.out
 refine ⟨_, rfl, hg, (put_x W' ab _ A _ c (blk_cell hA.ac 11) (blk_free hA.ac 11)).mono ?_⟩
 rintro e W2 ⟨rfl, rfl⟩
 exact ⟨rfl, ExtQ.setCell_grown _ _ _ _, _, _, _, hA.set (ExtQ.setCell_grown _ _ _ _) (blk_set hA.ac 11 _) hA.h4 hu' hA.h12⟩
theorem step_m (p : Plan) (B2 : Option Addr) (d2 : Nat) (B3 : Option Addr) (d3 : Nat) (w W : World) (ab g : Nat) (l : List ByteArray) (x : Act) (u4 u11 u12 : Value) (h : AB p B2 d2 B3 d3 w W ab g l x u4 u11 u12) (hz : ∀ s ∈ l, s.size <= 1073741824) (hq : (unqS (l.headD ⟨#[]⟩)).1.size <= 17592186044416) (hT : Lib.Utf8Tabs 1 2 w) : Calls Tryz.prog 38 #[.pointer (some ⟨g, 0, none⟩), .int .i32 109] W (ValuePost p B2 d2 B3 d3 w W ab g 109 ({ x with f10 := bytesOf (unqS (l.headD ⟨#[]⟩)).1 }, l.tail)) := by
 have hd := headD_le hz
 refine (value_m W g _ _ _ _ l h.rd (by omega) hq (fun W2 hg2 => Utf8Tabs_below hT (h.hb.grown hg2 h.hb.size (fun k hk => by cases hk; have := h.g1; have := h.g2; omega)))).mono ?_
 rintro e W' ⟨v, rfl, ⟨u, rfl, hu⟩, hr, hg⟩
 have hA := h.value hr hg
 have hu' := hu.lower h.hb.size
 obtain ⟨A, c, rfl, -, -, -⟩ := hu.out
 refine ⟨_, rfl, hg, (put_m W' ab _ A _ c (blk_cell hA.ac 11) (blk_free hA.ac 11)).mono ?_⟩
 rintro e W2 ⟨rfl, rfl⟩
 exact ⟨rfl, ExtQ.setCell_grown _ _ _ _, _, _, _, hA.set (ExtQ.setCell_grown _ _ _ _) (blk_set hA.ac 11 _) hA.h4 hu' hA.h12⟩
theorem step_r (p : Plan) (B2 : Option Addr) (d2 : Nat) (B3 : Option Addr) (d3 : Nat) (w W : World) (ab g : Nat) (l : List ByteArray) (x : Act) (u4 u11 u12 : Value) (h : AB p B2 d2 B3 d3 w W ab g l x u4 u11 u12) (hz : ∀ s ∈ l, s.size <= 1073741824) : Calls Tryz.prog 38 #[.pointer (some ⟨g, 0, none⟩), .int .i32 114] W (ValuePost p B2 d2 B3 d3 w W ab g 114 ({ x with f8 := ⟨ExtQ.numOf (l.headD ⟨#[]⟩), ExtQ.numOf (l.tail.headD ⟨#[]⟩)⟩ }, l.tail.tail)) := by
 have hd := headD_le hz
 refine (value_r W g _ _ _ _ l h.rd (by omega) (Nat.le_trans (headD_le (fun s hs => hz s (List.mem_of_mem_tail hs))) (by omega))).mono ?_
 rintro e W' ⟨v, rfl, rfl, hr, hg⟩
 have hA := h.value hr hg
 refine ⟨_, rfl, hg, (put_r W' ab _ _ _ _ (blk_cell hA.ac 8) (blk_cell hA.ac 9) (blk_free hA.ac 8) (blk_free hA.ac 9)).mono ?_⟩
 rintro e W2 ⟨rfl, rfl⟩
 have hg2 := (ExtQ.setCell_grown W' ab 8 (.int .u64 (ExtQ.numOf (l.headD ⟨#[]⟩)))).trans (ExtQ.setCell_grown _ ab 9 (.int .u64 (ExtQ.numOf (l.tail.headD ⟨#[]⟩))))
 exact ⟨rfl, hg2, _, _, _, hA.set hg2 (blk_set (blk_set hA.ac 8 _) 9 _) hA.h4 hA.h11 hA.h12⟩
theorem step_p (p : Plan) (B2 : Option Addr) (d2 : Nat) (B3 : Option Addr) (d3 : Nat) (w W : World) (ab g : Nat) (l : List ByteArray) (x : Act) (u4 u11 u12 : Value) (h : AB p B2 d2 B3 d3 w W ab g l x u4 u11 u12) (hz : ∀ s ∈ l, s.size <= 1073741824) : Calls Tryz.prog 38 #[.pointer (some ⟨g, 0, none⟩), .int .i32 112] W (ValuePost p B2 d2 B3 d3 w W ab g 112 ({ x with f11 := ExtQ.pickOf (l.headD ⟨#[]⟩) }, l.tail)) := by
 have hd := headD_le hz
 refine (ExtQ.value_p W g _ _ _ _ l h.rd (by omega)).mono ?_
 rintro e W' ⟨u, rfl, hR, hr, hg⟩
 have hA := h.value hr hg
 have hu' := (Held.of hR).lower h.hb.size
 obtain ⟨A, c, rfl, -, -, -⟩ := hu'.out
 refine ⟨_, rfl, hg, (put_p W' ab _ A _ c (blk_cell hA.ac 12) (blk_free hA.ac 12)).mono ?_⟩
 rintro e W2 ⟨rfl, rfl⟩
 exact ⟨rfl, ExtQ.setCell_grown _ _ _ _, _, _, _, hA.set (ExtQ.setCell_grown _ _ _ _) (blk_set hA.ac 12 _) hA.h4 hA.h11 hu'⟩
theorem step_s (p : Plan) (B2 : Option Addr) (d2 : Nat) (B3 : Option Addr) (d3 : Nat) (w W : World) (ab g : Nat) (l : List ByteArray) (x : Act) (u4 u11 u12 : Value) (h : AB p B2 d2 B3 d3 w W ab g l x u4 u11 u12) (hz : ∀ s ∈ l, s.size <= 1073741824) : Calls Tryz.prog 38 #[.pointer (some ⟨g, 0, none⟩), .int .i32 115] W (ValuePost p B2 d2 B3 d3 w W ab g 115 ({ x with f3 := (setsR l).1, f4 := (setsR l).2.1, f5 := (setsR l).2.2 }, setsL l)) := by
 have hd := headD_le hz
 refine (value_s W g _ _ _ _ l h.rd (fun s hs => Nat.le_trans (hz s hs) (by omega))).mono ?_
 rintro e W' ⟨v, rfl, ⟨u, rfl, hu⟩, hr, hg⟩
 have hA := h.value hr hg
 have hu' := hu.lower h.hb.size
 obtain ⟨A, c, rfl, -, -, -⟩ := hu.out
 refine ⟨_, rfl, hg, (put_s W' ab _ _ _ _ _ A _ c (blk_cell hA.ac 3) (blk_cell hA.ac 4) (blk_cell hA.ac 5) (blk_free hA.ac 3) (blk_free hA.ac 4) (blk_free hA.ac 5)).mono ?_⟩
 rintro e W2 ⟨rfl, rfl⟩
 have hg2 := ((ExtQ.setCell_grown W' ab 3 (.int .i64 (setsR l).1)).trans (ExtQ.setCell_grown _ ab 4 (.slice A (setsR l).2.1.length c))).trans (ExtQ.setCell_grown _ ab 5 (.int .u32 (setsR l).2.2))
 have hA2 := hA.set (x' := { x with f3 := (setsR l).1, f4 := (setsR l).2.1, f5 := (setsR l).2.2 }) hg2 (blk_set (blk_set (blk_set hA.ac 3 _) 4 _) 5 _) hu' hA.h11 hA.h12
 have hb2 := fun o => Below.drew (ExtQ.cellsBelow (((W'.setCell ⟨ab, 3, none⟩ (.int .i64 (setsR l).1)).setCell ⟨ab, 4, none⟩ (.slice A (setsR l).2.1.length c)).setCell ⟨ab, 5, none⟩ (.int .u32 (setsR l).2.2)) o)
 exact ⟨rfl, hg2.trans (grown_of_below (hb2 _) _), _, _, _, hA2.below (hb2 _)⟩
def okNm (k c : Int) : Bool :=
 ExtP.plainS (ExtP.nameS k c) && ((ExtP.kindOf (ExtP.nameS k c) == k) && (((ExtP.codesOf k).find? (ExtP.isName k (ExtP.nameS k c)) == some c) && ((ExtP.nameS k c).data.toList.all (fun b => decide (b ≠ 32 /\ b ≠ 34 /\ b ≠ 47)) && !(ExtP.nameS k c).data.toList.isEmpty)))
theorem names_all (k : Int) (h : k = 1 \/ k = 2 \/ k = 3) : ∀ c ∈ ExtP.codesOf k, okNm k c = true := by
 rcases h with rfl | rfl | rfl
 · decide +kernel
 · decide +kernel
 · decide +kernel
theorem nm_mem_low (k c : Int) (h0 : 0 <= c) (h1 : c < 25) (hk : known k c = true) : c ∈ ExtP.lowL k 25 := by
 unfold ExtP.lowL
 rw [List.mem_filter, List.mem_map]
 exact ⟨⟨c.toNat, by rw [List.mem_range]; omega, by show ((c.toNat : Nat) : Int) = c; omega⟩, hk⟩
theorem nm_mem_high (k f c : Int) (h0 : f <= c) (h1 : c < f + 64) (hk : known k c = true) : c ∈ ExtP.highL k f 64 := by
 unfold ExtP.highL
 rw [List.mem_filter, List.mem_map]
 exact ⟨⟨(c - f).toNat, by rw [List.mem_range]; omega, by show f + (((c - f).toNat : Nat) : Int) = c; omega⟩, hk⟩
theorem nm_ownFam {c f h x : Int} (e : ownFam c x = some (f, h)) : x <= c /\ c < x + 64 := by
 unfold ownFam at e
 split at e
 · rename_i hh; omega
 · cases e
theorem nm_codes (k c : Int) (g0 : 0 <= c) (hk : known k c = true) : (k = 1 \/ k = 2 \/ k = 3) /\ c ∈ ExtP.codesOf k := by
 have hk0 := hk
 unfold known at hk
 by_cases h1 : k = 1
 · subst h1
   rw [if_pos rfl] at hk
   refine ⟨.inl rfl, ?_⟩
   show c ∈ ExtP.codesL 1 4026531840
   unfold ExtP.codesL
   rw [List.mem_append]
   left
   refine nm_mem_low 1 c g0 ?_ hk0
   rcases Nat.lt_or_ge 16 c.toNat with h | h
   · unfold ots at hk
     rw [Spec.otsTab_big _ h] at hk
     exact absurd (show ((60 : Int) == 0) = true from hk) (by decide)
   · omega
 · rw [if_neg h1] at hk
   by_cases h2 : k = 2
   · subst h2
     rw [if_pos rfl] at hk
     refine ⟨.inr (.inl rfl), ?_⟩
     show c ∈ ExtP.codesL 2 4026531840
     unfold ExtP.codesL
     rw [List.mem_append]
     unfold lms at hk
     split at hk
     · rename_i f h e
       unfold lmsFam at e
       split at e
       · exact .inl (nm_mem_low 2 c g0 (by omega) hk0)
       · have := nm_ownFam e
         exact .inr (nm_mem_high 2 _ c this.1 this.2 hk0)
     · exact absurd hk (by decide)
   · rw [if_neg h2] at hk
     by_cases h3 : k = 3
     · subst h3
       rw [if_pos rfl] at hk
       refine ⟨.inr (.inr rfl), ?_⟩
       show c ∈ ExtP.codesL 3 4043309056
       unfold ExtP.codesL
       rw [List.mem_append]
       unfold xms at hk
       split at hk
       · rename_i f h e
         unfold xmsFam at e
         split at e
         · exact .inl (nm_mem_low 3 c g0 (by omega) hk0)
         · split at e
           · exact .inl (nm_mem_low 3 c g0 (by omega) hk0)
           · have := nm_ownFam e
             exact .inr (nm_mem_high 3 _ c this.1 this.2 hk0)
       · exact absurd hk (by decide)
     · rw [if_neg h3] at hk; exact absurd hk (by decide)
theorem nm_back (k c : Int) (g0 : 0 <= c) (hk : known k c = true) : (ExtP.codeS (ExtP.nameS k c)).2.1 = c /\ (∀ b ∈ (ExtP.nameS k c).data.toList, b ≠ 32 /\ b ≠ 34 /\ b ≠ 47) /\ (ExtP.nameS k c).data.toList ≠ [] := by
 obtain ⟨h3, hm⟩ := nm_codes k c g0 hk
 have h := names_all k h3 c hm
 unfold okNm at h
 simp only [Bool.and_eq_true, beq_iff_eq, List.all_eq_true, decide_eq_true_eq, Bool.not_eq_true', List.isEmpty_eq_false_iff] at h
 obtain ⟨a1, a2, a3, a4, a5⟩ := h
 refine ⟨?_, a4, a5⟩
 unfold ExtP.codeS
 rw [if_neg (by rw [a1]; simp), a2, a3]
theorem fit_known (a b : Int) (ha : 0 <= a) (hb : 0 <= b) (h : lvFit a b = true) : known 2 a = true /\ known 1 b = true := by
 unfold lvFit ExtP.fitS at h
 split at h
 · rename_i h1
   split at h
   · rename_i h2
     constructor
     · show ((lms a).2 == 0) = true
       unfold ExtP.isLmsS at h1
       split at h1
       · rename_i h3
         cases e : lmsFam a with
         | some fh =>
           unfold lms
           rw [e]
           rfl
         | none =>
           have h9 : (lms a).1 = LmsR.zero := by unfold lms; rw [e]
           rw [h9] at h3
           exact absurd h3 (by decide +kernel)
       · cases h1
     · show ((ots b).2 == 0) = true
       unfold ExtP.isOtsS at h2
       split at h2
       · rename_i h3
         rcases Nat.lt_or_ge 16 b.toNat with h | h
         · have h9 : (ots b).1 = OtsR.zero := by unfold ots; rw [Spec.otsTab_big _ h]
           rw [h9] at h3
           exact absurd h3 (by decide +kernel)
         · have key : ∀ n : Fin 17, (ots (ots (n.val : Int)).1.code).2 = 0 -> ((ots (n.val : Int)).2 == 0) = true := by decide +kernel
           obtain ⟨n, rfl⟩ := Int.eq_ofNat_of_zero_le hb
           exact key ⟨n, by omega⟩ h3
       · cases h2
   · cases h
 · cases h
def lvB (v : Lv) : ByteArray := (ExtP.nameS 2 v.f0 ++ ⟨#[47]⟩) ++ ExtP.nameS 1 v.f1
theorem lvB_data (v : Lv) : (lvB v).data.toList = (ExtP.nameS 2 v.f0).data.toList ++ 47 :: (ExtP.nameS 1 v.f1).data.toList := by
 unfold lvB
 rw [ByteArray.data_append, ByteArray.data_append, Array.toList_append, Array.toList_append, List.append_assoc]
 rfl
theorem idx_at : ∀ (a b : List UInt8), (∀ x ∈ a, x ≠ 47) -> Lib.indexByte (a ++ 47 :: b) 47 = (a.length : Int)
 | [], b, _ => by simp [Lib.indexByte]
 | x :: t, b, h => by
   have h1 := idx_at t b (fun y hy => h y (by simp [hy]))
   have h2 := h x (by simp)
   rw [List.cons_append, Lib.indexByte, h1, if_neg (by simpa using h2), if_neg (by simp)]
   simp
theorem cut_1 (a b : List UInt8) (n : Nat) (h : n = a.length) : ((a ++ 47 :: b).take n).drop 0 = a := by subst h; simp
theorem cut_2 (a b : List UInt8) (n : Nat) (h : n = a.length) : (a ++ 47 :: b).drop (n + 1) = b := by subst h; simp [List.drop_append]
theorem lvOf_back (v : Lv) (h1 : 0 <= v.f0) (h2 : 0 <= v.f1) (k1 : known 2 v.f0 = true) (k2 : known 1 v.f1 = true) : lvOf (lvB v) = v := by
 have n1 := nm_back 2 v.f0 h1 k1
 have n2 := nm_back 1 v.f1 h2 k2
 have hi : slashI (lvB v) = ((ExtP.nameS 2 v.f0).size : Int) := by
  unfold slashI
  rw [lvB_data, idx_at _ _ (fun x hx => (n1.2.1 x hx).2.2)]
  rw [Array.length_toList]
  rfl
 have hs : slashS (lvB v) = (ExtP.nameS 2 v.f0, ExtP.nameS 1 v.f1) := by
  unfold slashS
  rw [if_pos (by rw [hi]; omega), hi]
  have hl : (ExtP.nameS 2 v.f0).data.toList.length = (ExtP.nameS 2 v.f0).size := by rw [Array.length_toList]; rfl
  have hl2 : (lvB v).data.toList.length = (lvB v).size := by rw [Array.length_toList]; rfl
  refine Prod.ext ?_ ?_
  · apply ByteArray.ext
    rw [<- Array.toList_inj, extract_list, lvB_data]
    exact cut_1 _ _ _ (by rw [Int.toNat_natCast, hl])
  · apply ByteArray.ext
    rw [<- Array.toList_inj, extract_list, <- hl2, List.take_length, lvB_data]
    exact cut_2 _ _ _ (by rw [Int.toNat_natCast, hl])
 unfold lvOf
 rw [hs, n1.1, n2.1]
theorem good_lvB (v : Lv) (h1 : 0 <= v.f0) (h2 : 0 <= v.f1) (k1 : known 2 v.f0 = true) (k2 : known 1 v.f1 = true) : GoodW (lvB v).data.toList := by
 have n1 := nm_back 2 v.f0 h1 k1
 have n2 := nm_back 1 v.f1 h2 k2
 rw [lvB_data]
 refine good_plain ?_ (by simp)
 intro b hb
 rcases List.mem_append.1 hb with hb | hb
 · have := n1.2.1 b hb; exact ⟨this.1, this.2.1⟩
 · rcases List.mem_cons.1 hb with rfl | hb
   · decide
   · have := n2.2.1 b hb; exact ⟨this.1, this.2.1⟩
end Go.Proofs.YtpdinahdcedmkaaGreatDoor.Ext
namespace Go.Proofs.YtpdinahdcedmkaaGreatDoor.Ext
open Go.Proofs.YtpdinahdcedmkaaGreatDoor.P
open Go.RowKit YtpdinahdcedmkaaGreatDoorW.PrintWords YtpdinahdcedmkaaGreatDoorW.PrintLast YtpdinahdcedmkaaGreatDoorW.PrintMore
theorem hex_l0 (l : List Int) (hb : Bytes l) (hl : l.length <= 1048576) : ∀ (m i : Nat) (out : List Int), i + m = l.length -> out.length = 2 * i -> octet_Hex.l0 (m + 1) out l (l.length : Int) (i : Int) = some (strOfNums (out ++ hexS (l.drop i)))
 | 0, i, out, h, ho => by
   unfold octet_Hex.l0
   rw [if_neg (by omega), List.drop_eq_nil_of_le (by omega)]
   simp [hexS]
 | m + 1, i, out, h, ho => by
   have hg := Bytes.get hb i (by omega)
   have hbits := bits15 (l.getD i 0) hg.1 hg.2
   unfold octet_Hex.l0
   rw [show rd l (i : Int) = l.getD i 0 by simp [rd]]
   rw [hbits]
   rw [if_pos (by omega), if_pos (by omega), if_pos (by omega), if_pos (by omega), if_pos (by omega), if_pos (by omega), if_pos (by omega), Option.bind_some, if_pos (by simp; omega), bt_hex _ (by omega) (by omega), bt_hex _ (by omega) (by omega), w64 _ (by omega)]
   have := hex_l0 l hb hl m (i + 1) (out ++ [hexd (l.getD i 0 / 16), hexd (l.getD i 0 % 16)]) (by omega) (by simp; omega)
   push_cast at this
   rw [this, drop_cons l i (by omega)]
   simp [hexS, List.append_assoc]
theorem hex_f (l : List Int) (hb : Bytes l) (hl : l.length <= 1048576) : octet_Hex.f (l.length + 1) l = some (strOfNums (hexS l)) := by
 unfold octet_Hex.f
 rw [w64 _ (by omega), if_pos (by omega), if_pos (by omega)]
 have := hex_l0 l hb hl l.length 0 [] (by omega) rfl
 simpa using this
end Go.Proofs.YtpdinahdcedmkaaGreatDoor.Ext
namespace Go.Proofs.YtpdinahdcedmkaaGreatDoor.Ext
open Go.Proofs.YtpdinahdcedmkaaGreatDoor.P
open Go.RowKit YtpdinahdcedmkaaGreatDoorW.PrintWords YtpdinahdcedmkaaGreatDoorW.PrintLast YtpdinahdcedmkaaGreatDoorW.PrintMore Go.Proofs.YtpdinahdcedmkaaGreatDoor.Spec
theorem c_dec (n : Int) (w : World) (h0 : 0 <= n) (h1 : n < 18446744073709551616) : Calls Tryz.prog 108 #[.int .u64 n] w (StrB (decS n) w) :=
 octet_Decimal.calls n _ w (by unfold octet_Decimal.f; rw [if_pos h0, if_pos h1]; rfl)
theorem c_digits (n : Int) (w : World) : Calls Tryz.prog 93 #[.int .i64 n] w (StrB (decS (IntKind.u64.wrap n)) w) := by
 have cq := Lib.hid (fun W => c_dec (IntKind.u64.wrap n) W (wrap_u64_bd _).1 (wrap_u64_bd _).2)
 generalize decS (IntKind.u64.wrap n) = R at *
 go_enter Tryz.func93, Tryz.ntmps93
 go_wp2_with (first
  | (go_at_call 108
     with_reducible refine (cq.out _).mono ?_
     rintro e v ⟨rfl, hb⟩)
  | fail)
 go_ret
 exact ⟨rfl, hb⟩
theorem c_hex (A : Option Addr) (c : Nat) (l : List Int) (w : World) (hC : Kd.C (Kd.int .u8) w A l.length l) (hc : l.length <= c) (hb : Bytes l) (hl : l.length <= 1048576) :
 Calls Tryz.prog 109 #[.slice A l.length c] w (StrB (strOfNums (hexS l)) w) := octet_Hex.calls (l.length + 1) A c l _ w hC hc (hex_f l hb hl)
theorem said_d (p : Plan) (x : Act) (cp cs : List Value) (w : World) (hP : k25.K w p cp) (hK : k34.K w x cs) (h0 : 0 <= x.f1) (h1 : x.f1 < (p.f2.length : Int)) (hs : (p.f2.getD x.f1.toNat ByteArray.empty).size <= 17592186044416) (hT : Lib.Utf8Tabs 1 2 w) :
 Calls Tryz.prog 67 #[.agg cp.toArray, .agg cs.toArray, .int .i32 100] w (StrB (quoteS (p.f2.getD x.f1.toNat ByteArray.empty)) w) := by
 have P0 := Zz.mk ((Bx.new w cp 25).push (.cells cs.toArray 34))
 have X0 := Zz.mk ((Bx.new w cp 25).on cs 34 |>.at_ (show _ = w.heap.size + 1 by simp))
 obtain ⟨A4, c4, A11, c11, A12, c12, rfl, l4, g4, l11, g11, l12, g12⟩ := k34_open hK
 obtain ⟨B2, d2, B3, d3, rfl, m2, e2, m3, e3⟩ := k25_open hP
 have HZ := Zz.mk (hx_mk P0.out X0.out)
 clear P0 X0
 obtain ⟨ad, e0, hx0⟩ := Kd.at_string e2 x.f1 h0 h1
 cases e0
 have hx := (HZ.out.x.hb.cell (World.block_lt_of_cell? w _ hx0)).trans hx0
 clear hx0
 have cq := Lib.hid (fun W (hW : Below w.heap.size w W) => quote_walk (p.f2.getD x.f1.toNat ByteArray.empty) W hs (Utf8Tabs_below hT hW))
 clear hs hT
 simp only [rdOf] at hx
 generalize p.f2.getD x.f1.toNat ByteArray.empty = nm at *
 clear hP hK g4 g11 g12 l4 l11 l12 m2 e2 m3 e3
 have r2 := HZ.out.p.c 2
 have q1 := HZ.out.x.c 1
 go_enter Tryz.func67, Tryz.ntmps67
 go_wp2_with (first
  | (go_at_call 94
     with_reducible refine (cq.out _ HZ.out.x.hb).mono ?_
     rintro e v ⟨rfl, hb⟩
     replace HZ := Zz.mk (HZ.out.next hb)
     clear hb)
  | fail)
 go_ret
 exact ⟨rfl, HZ.out.x.hb⟩
theorem said_t (p : Plan) (x : Act) (cp cs : List Value) (w : World) (hP : k25.K w p cp) (hK : k34.K w x cs) (h0 : 0 <= x.f2) (h1 : x.f2 < (p.f2.length : Int)) (hs : (p.f2.getD x.f2.toNat ByteArray.empty).size <= 17592186044416) (hT : Lib.Utf8Tabs 1 2 w) :
 Calls Tryz.prog 67 #[.agg cp.toArray, .agg cs.toArray, .int .i32 116] w (StrB (quoteS (p.f2.getD x.f2.toNat ByteArray.empty)) w) := by
 have P0 := Zz.mk ((Bx.new w cp 25).push (.cells cs.toArray 34))
 have X0 := Zz.mk ((Bx.new w cp 25).on cs 34 |>.at_ (show _ = w.heap.size + 1 by simp))
 obtain ⟨A4, c4, A11, c11, A12, c12, rfl, l4, g4, l11, g11, l12, g12⟩ := k34_open hK
 obtain ⟨B2, d2, B3, d3, rfl, m2, e2, m3, e3⟩ := k25_open hP
 have HZ := Zz.mk (hx_mk P0.out X0.out)
 clear P0 X0
 obtain ⟨ad, e0, hx0⟩ := Kd.at_string e2 x.f2 h0 h1
 cases e0
 have hx := (HZ.out.x.hb.cell (World.block_lt_of_cell? w _ hx0)).trans hx0
 clear hx0
 have cq := Lib.hid (fun W (hW : Below w.heap.size w W) => quote_walk (p.f2.getD x.f2.toNat ByteArray.empty) W hs (Utf8Tabs_below hT hW))
 clear hs hT
 simp only [rdOf] at hx
 generalize p.f2.getD x.f2.toNat ByteArray.empty = nm at *
 clear hP hK g4 g11 g12 l4 l11 l12 m2 e2 m3 e3
 have r2 := HZ.out.p.c 2
 have q2 := HZ.out.x.c 2
 go_enter Tryz.func67, Tryz.ntmps67
 go_wp2_with (first
  | (go_at_call 94
     with_reducible refine (cq.out _ HZ.out.x.hb).mono ?_
     rintro e v ⟨rfl, hb⟩
     replace HZ := Zz.mk (HZ.out.next hb)
     clear hb)
  | fail)
 go_ret
 exact ⟨rfl, HZ.out.x.hb⟩
theorem said_k (p : Plan) (x : Act) (cp cs : List Value) (w : World) (hP : k25.K w p cp) (hK : k34.K w x cs) :
 Calls Tryz.prog 67 #[.agg cp.toArray, .agg cs.toArray, .int .i32 107] w (StrB (decS (IntKind.u64.wrap x.f6)) w) := by
 have P0 := Zz.mk ((Bx.new w cp 25).push (.cells cs.toArray 34))
 have X0 := Zz.mk ((Bx.new w cp 25).on cs 34 |>.at_ (show _ = w.heap.size + 1 by simp))
 obtain ⟨A4, c4, A11, c11, A12, c12, rfl, l4, g4, l11, g11, l12, g12⟩ := k34_open hK
 obtain ⟨B2, d2, B3, d3, rfl, m2, e2, m3, e3⟩ := k25_open hP
 have HZ := Zz.mk (hx_mk P0.out X0.out)
 clear P0 X0
 have cq := Lib.hid (fun W => c_dec (IntKind.u64.wrap x.f6) W (wrap_u64_bd _).1 (wrap_u64_bd _).2)
 generalize decS (IntKind.u64.wrap x.f6) = R at *
 clear hP hK g4 g11 g12 l4 l11 l12 m2 e2 m3 e3
 have q6 := HZ.out.x.c 6
 go_enter Tryz.func67, Tryz.ntmps67
 go_wp2_with (first
  | (go_at_call 108
     with_reducible refine (cq.out _).mono ?_
     rintro e v ⟨rfl, hb⟩
     replace HZ := Zz.mk (HZ.out.next hb)
     clear hb)
  | fail)
 go_ret
 exact ⟨rfl, HZ.out.x.hb⟩
theorem said_i (p : Plan) (x : Act) (cp cs : List Value) (w : World) (hP : k25.K w p cp) (hK : k34.K w x cs) :
 Calls Tryz.prog 67 #[.agg cp.toArray, .agg cs.toArray, .int .i32 105] w (StrB (decS (IntKind.u64.wrap x.f7)) w) := by
 have P0 := Zz.mk ((Bx.new w cp 25).push (.cells cs.toArray 34))
 have X0 := Zz.mk ((Bx.new w cp 25).on cs 34 |>.at_ (show _ = w.heap.size + 1 by simp))
 obtain ⟨A4, c4, A11, c11, A12, c12, rfl, l4, g4, l11, g11, l12, g12⟩ := k34_open hK
 obtain ⟨B2, d2, B3, d3, rfl, m2, e2, m3, e3⟩ := k25_open hP
 have HZ := Zz.mk (hx_mk P0.out X0.out)
 clear P0 X0
 have cq := Lib.hid (fun W => c_dec (IntKind.u64.wrap x.f7) W (wrap_u64_bd _).1 (wrap_u64_bd _).2)
 generalize decS (IntKind.u64.wrap x.f7) = R at *
 clear hP hK g4 g11 g12 l4 l11 l12 m2 e2 m3 e3
 have q7 := HZ.out.x.c 7
 go_enter Tryz.func67, Tryz.ntmps67
 go_wp2_with (first
  | (go_at_call 108
     with_reducible refine (cq.out _).mono ?_
     rintro e v ⟨rfl, hb⟩
     replace HZ := Zz.mk (HZ.out.next hb)
     clear hb)
  | fail)
 go_ret
 exact ⟨rfl, HZ.out.x.hb⟩
theorem said_b (p : Plan) (x : Act) (cp cs : List Value) (w : World) (hP : k25.K w p cp) (hK : k34.K w x cs) :
 Calls Tryz.prog 67 #[.agg cp.toArray, .agg cs.toArray, .int .i32 98] w (StrB (decS (IntKind.u64.wrap x.f9)) w) := by
 have P0 := Zz.mk ((Bx.new w cp 25).push (.cells cs.toArray 34))
 have X0 := Zz.mk ((Bx.new w cp 25).on cs 34 |>.at_ (show _ = w.heap.size + 1 by simp))
 obtain ⟨A4, c4, A11, c11, A12, c12, rfl, l4, g4, l11, g11, l12, g12⟩ := k34_open hK
 obtain ⟨B2, d2, B3, d3, rfl, m2, e2, m3, e3⟩ := k25_open hP
 have HZ := Zz.mk (hx_mk P0.out X0.out)
 clear P0 X0
 have cq := Lib.hid (fun W => c_digits x.f9 W)
 generalize decS (IntKind.u64.wrap x.f9) = R at *
 clear hP hK g4 g11 g12 l4 l11 l12 m2 e2 m3 e3
 have q10 := HZ.out.x.c 10
 go_enter Tryz.func67, Tryz.ntmps67
 go_wp2_with (first
  | (go_at_call 93
     with_reducible refine (cq.out _).mono ?_
     rintro e v ⟨rfl, hb⟩
     replace HZ := Zz.mk (HZ.out.next hb)
     clear hb)
  | fail)
 go_ret
 exact ⟨rfl, HZ.out.x.hb⟩
theorem said_n (p : Plan) (x : Act) (cp cs : List Value) (w : World) (hP : k25.K w p cp) (hK : k34.K w x cs) :
 Calls Tryz.prog 67 #[.agg cp.toArray, .agg cs.toArray, .int .i32 110] w (StrB (decS (IntKind.u64.wrap x.f9)) w) := by
 have P0 := Zz.mk ((Bx.new w cp 25).push (.cells cs.toArray 34))
 have X0 := Zz.mk ((Bx.new w cp 25).on cs 34 |>.at_ (show _ = w.heap.size + 1 by simp))
 obtain ⟨A4, c4, A11, c11, A12, c12, rfl, l4, g4, l11, g11, l12, g12⟩ := k34_open hK
 obtain ⟨B2, d2, B3, d3, rfl, m2, e2, m3, e3⟩ := k25_open hP
 have HZ := Zz.mk (hx_mk P0.out X0.out)
 clear P0 X0
 have cq := Lib.hid (fun W => c_digits x.f9 W)
 generalize decS (IntKind.u64.wrap x.f9) = R at *
 clear hP hK g4 g11 g12 l4 l11 l12 m2 e2 m3 e3
 have q10 := HZ.out.x.c 10
 go_enter Tryz.func67, Tryz.ntmps67
 go_wp2_with (first
  | (go_at_call 93
     with_reducible refine (cq.out _).mono ?_
     rintro e v ⟨rfl, hb⟩
     replace HZ := Zz.mk (HZ.out.next hb)
     clear hb)
  | fail)
 go_ret
 exact ⟨rfl, HZ.out.x.hb⟩
theorem said_w (p : Plan) (x : Act) (cp cs : List Value) (w : World) (hP : k25.K w p cp) (hK : k34.K w x cs) (hb : Bytes x.f10) (hl : x.f10.length <= 1048576) :
 Calls Tryz.prog 67 #[.agg cp.toArray, .agg cs.toArray, .int .i32 119] w (StrB (strOfNums (hexS x.f10)) w) := by
 have P0 := Zz.mk ((Bx.new w cp 25).push (.cells cs.toArray 34))
 have X0 := Zz.mk ((Bx.new w cp 25).on cs 34 |>.at_ (show _ = w.heap.size + 1 by simp))
 obtain ⟨A4, c4, A11, c11, A12, c12, rfl, l4, g4, l11, g11, l12, g12⟩ := k34_open hK
 obtain ⟨B2, d2, B3, d3, rfl, m2, e2, m3, e3⟩ := k25_open hP
 have HZ := Zz.mk (hx_mk P0.out X0.out)
 clear P0 X0
 have cq := Lib.hid (fun W (hW : Below w.heap.size w W) => c_hex A11 c11 x.f10 W (Kd.C_below g11 hW) l11 hb hl)
 clear hb hl
 generalize strOfNums (hexS x.f10) = R at *
 clear hP hK g4 g11 g12 l4 l11 l12 m2 e2 m3 e3
 have q11 := HZ.out.x.c 11
 go_enter Tryz.func67, Tryz.ntmps67
 go_wp2_with (first
  | (go_at_call 109
     with_reducible refine (cq.out _ HZ.out.x.hb).mono ?_
     rintro e v ⟨rfl, hb⟩
     replace HZ := Zz.mk (HZ.out.next hb)
     clear hb)
  | fail)
 go_ret
 exact ⟨rfl, HZ.out.x.hb⟩
theorem said_x (p : Plan) (x : Act) (cp cs : List Value) (w : World) (hP : k25.K w p cp) (hK : k34.K w x cs) (hb : Bytes x.f10) (hl : x.f10.length <= 1048576) :
 Calls Tryz.prog 67 #[.agg cp.toArray, .agg cs.toArray, .int .i32 120] w (StrB (strOfNums (hexS x.f10)) w) := by
 have P0 := Zz.mk ((Bx.new w cp 25).push (.cells cs.toArray 34))
 have X0 := Zz.mk ((Bx.new w cp 25).on cs 34 |>.at_ (show _ = w.heap.size + 1 by simp))
 obtain ⟨A4, c4, A11, c11, A12, c12, rfl, l4, g4, l11, g11, l12, g12⟩ := k34_open hK
 obtain ⟨B2, d2, B3, d3, rfl, m2, e2, m3, e3⟩ := k25_open hP
 have HZ := Zz.mk (hx_mk P0.out X0.out)
 clear P0 X0
 have cq := Lib.hid (fun W (hW : Below w.heap.size w W) => c_hex A11 c11 x.f10 W (Kd.C_below g11 hW) l11 hb hl)
 clear hb hl
 generalize strOfNums (hexS x.f10) = R at *
 clear hP hK g4 g11 g12 l4 l11 l12 m2 e2 m3 e3
 have q11 := HZ.out.x.c 11
 go_enter Tryz.func67, Tryz.ntmps67
 go_wp2_with (first
  | (go_at_call 109
     with_reducible refine (cq.out _ HZ.out.x.hb).mono ?_
     rintro e v ⟨rfl, hb⟩
     replace HZ := Zz.mk (HZ.out.next hb)
     clear hb)
  | fail)
 go_ret
 exact ⟨rfl, HZ.out.x.hb⟩
theorem said_m (p : Plan) (x : Act) (cp cs : List Value) (w : World) (hP : k25.K w p cp) (hK : k34.K w x cs) (hs : (strOfNums x.f10).size <= 17592186044416) (hT : Lib.Utf8Tabs 1 2 w) :
 Calls Tryz.prog 67 #[.agg cp.toArray, .agg cs.toArray, .int .i32 109] w (StrB (quoteS (strOfNums x.f10)) w) := by
 have P0 := Zz.mk ((Bx.new w cp 25).push (.cells cs.toArray 34))
 have X0 := Zz.mk ((Bx.new w cp 25).on cs 34 |>.at_ (show _ = w.heap.size + 1 by simp))
 obtain ⟨A4, c4, A11, c11, A12, c12, rfl, l4, g4, l11, g11, l12, g12⟩ := k34_open hK
 obtain ⟨B2, d2, B3, d3, rfl, m2, e2, m3, e3⟩ := k25_open hP
 have HZ := Zz.mk (hx_mk P0.out X0.out)
 clear P0 X0
 have hcv := Kd.C_string (P := Tryz.prog) (A := A11) (c := c11) Tryz.underlying31 Tryz.underlying5 Tryz.underlying9 (Kd.C_below g11 HZ.out.x.hb)
 have cq := Lib.hid (fun W (hW : Below w.heap.size w W) => quote_walk (strOfNums x.f10) W hs (Utf8Tabs_below hT hW))
 clear hs hT
 clear hP hK g4 g11 g12 l4 l11 l12 m2 e2 m3 e3
 have q11 := HZ.out.x.c 11
 go_enter Tryz.func67, Tryz.ntmps67
 go_wp2_with (first
  | (go_at_call 94
     with_reducible refine (cq.out _ HZ.out.x.hb).mono ?_
     rintro e v ⟨rfl, hb⟩
     replace HZ := Zz.mk (HZ.out.next hb)
     clear hb)
  | fail)
 go_ret
 exact ⟨rfl, HZ.out.x.hb⟩
theorem said_r (p : Plan) (x : Act) (cp cs : List Value) (w : World) (hP : k25.K w p cp) (hK : k34.K w x cs) (h0 : 0 <= x.f8.f0) (h1 : x.f8.f0 < 18446744073709551616) (h2 : 0 <= x.f8.f1) (h3 : x.f8.f1 < 18446744073709551616) :
 Calls Tryz.prog 67 #[.agg cp.toArray, .agg cs.toArray, .int .i32 114] w (StrB ((decS x.f8.f0 ++ ⟨#[32]⟩) ++ decS x.f8.f1) w) := by
 have P0 := Zz.mk ((Bx.new w cp 25).push (.cells cs.toArray 34))
 have X0 := Zz.mk ((Bx.new w cp 25).on cs 34 |>.at_ (show _ = w.heap.size + 1 by simp))
 obtain ⟨A4, c4, A11, c11, A12, c12, rfl, l4, g4, l11, g11, l12, g12⟩ := k34_open hK
 obtain ⟨B2, d2, B3, d3, rfl, m2, e2, m3, e3⟩ := k25_open hP
 have HZ := Zz.mk (hx_mk P0.out X0.out)
 clear P0 X0
 have c1 := Lib.hid (fun W => c_dec x.f8.f0 W h0 h1)
 have c2 := Lib.hid (fun W => c_dec x.f8.f1 W h2 h3)
 have z1 : (decS x.f8.f0).size <= 20 := decS_size _ h1
 have z2 : (decS x.f8.f1).size <= 20 := decS_size _ h3
 clear h0 h1 h2 h3
 generalize decS x.f8.f0 = R1 at *
 generalize decS x.f8.f1 = R2 at *
 have f1 : R1.size + 1 <= 9223372036854775807 := by omega
 have f2 : (R1 ++ ⟨#[32]⟩ : ByteArray).size + R2.size <= 9223372036854775807 := by rw [ByteArray.size_append]; show _ + 1 + _ <= _; omega
 have k1 := fun W => run_string_add_sum (P := Tryz.prog) W R1 (⟨#[32]⟩ : ByteArray) f1
 have k2 := fun W => run_string_add_sum (P := Tryz.prog) W (R1 ++ ⟨#[32]⟩ : ByteArray) R2 f2
 clear hP hK g4 g11 g12 l4 l11 l12 m2 e2 m3 e3
 have q8 := HZ.out.x.c 8
 have q9 := HZ.out.x.c 9
 go_enter Tryz.func67, Tryz.ntmps67
 go_upto_region 20 with fail
 refine wp_region_held_drew (S := HX w 25 34 w.heap.size (w.heap.size + 1) (.int .i64 p.f0) (.int .i64 p.f1) (.slice B2 p.f2.length d2) (.slice B3 p.f3.length d3) (.int .i64 x.f0) (.int .i64 x.f1) (.int .i64 x.f2) (.int .i64 x.f3) (.slice A4 x.f4.length c4) (.int .u32 x.f5) (.int .u32 x.f6) (.int .u32 x.f7) (.int .u64 x.f8.f0) (.int .u64 x.f8.f1) (.int .i64 x.f9) (.slice A11 x.f10.length c11) (.slice A12 x.f11.length c12)) (by kernel_rfl) (HZ.out.drew) (fun hHeld => ?_)
 apply tkJ 0
 apply tkJ 1
 apply tkJ 2
 apply tkJ 5
 apply tkJ 6
 apply tkJ 7
 refine wpAnyH_ready (rs := [3]) (by kernel_rfl) (by simp) ?_
 refine AllReadyH.cons rfl (fun K hK => ?_) AllReadyH.nil
 go_simp
 go_at_call 108
 with_reducible refine (c1.out _).mono ?_
 rintro e u1 ⟨rfl, hbz⟩
 try go_wp2_with fail
 refine hK.out _ _ (hHeld.next hbz) ?_
 clear hHeld hbz hK K
 intro hHeld
 try simp only [Act.put,pA,pB,pC,pD,pE,pF]
 apply tkJ 4
 refine wpAnyH_ready (rs := [8]) (by kernel_rfl) (by simp) ?_
 refine AllReadyH.cons rfl (fun K hK => ?_) AllReadyH.nil
 go_simp
 go_at_call 108
 with_reducible refine (c2.out _).mono ?_
 rintro e u2 ⟨rfl, hbz⟩
 try go_wp2_with fail
 refine hK.out _ _ (hHeld.next hbz) ?_
 clear hHeld hbz hK K
 intro hHeld
 try simp only [Act.put,pA,pB,pC,pD,pE,pF]
 apply tkJ 9
 apply tkJ 10
 refine wpAnyH_done (by kernel_rfl) ?_ _
 go_wp2_with fail
 go_ret
 exact ⟨rfl, hHeld.x.hb⟩
theorem said_s (p : Plan) (x : Act) (cp cs : List Value) (w : World) (hP : k25.K w p cp) (hK : k34.K w x cs) (hx : ActBd x) (hl : x.f4.length <= 1048576) :
 Calls Tryz.prog 67 #[.agg cp.toArray, .agg cs.toArray, .int .i32 115] w (StrB (setsB x) w) := by
 have P0 := Zz.mk ((Bx.new w cp 25).push (.cells cs.toArray 34))
 have X0 := Zz.mk ((Bx.new w cp 25).on cs 34 |>.at_ (show _ = w.heap.size + 1 by simp))
 have hKK := hK
 obtain ⟨A4, c4, A11, c11, A12, c12, rfl, l4, g4, l11, g11, l12, g12⟩ := k34_open hK
 obtain ⟨B2, d2, B3, d3, rfl, m2, e2, m3, e3⟩ := k25_open hP
 have HZ := Zz.mk (hx_mk P0.out X0.out)
 clear P0 X0
 have cq := Lib.hid (fun W (hW : Below w.heap.size w W) => c_setsOf x _ W (k34.K_below hW hKK) hx hl)
 clear hx hl hKK
 generalize setsB x = R at *
 clear hP hK g4 g11 g12 l4 l11 l12 m2 e2 m3 e3
 obtain ⟨q0, q1, q2, q3, q4, q5, q6, q7, q8, q9, q10, q11, q12⟩ := cxs13 HZ.out.x
 go_enter Tryz.func67, Tryz.ntmps67
 go_wp2_with (first
  | (go_at_call 110
     with_reducible refine (cq.out _ HZ.out.x.hb).mono ?_
     rintro e v ⟨rfl, hb⟩
     replace HZ := Zz.mk (HZ.out.next hb)
     clear hb)
  | fail)
 go_ret
 exact ⟨rfl, HZ.out.x.hb⟩
theorem said_p (p : Plan) (x : Act) (cp cs : List Value) (w : World) (hP : k25.K w p cp) (hK : k34.K w x cs) (hl : x.f11.length <= 1048576) :
 Calls Tryz.prog 67 #[.agg cp.toArray, .agg cs.toArray, .int .i32 112] w (StrB (pickS x.f11) w) := by
 have P0 := Zz.mk ((Bx.new w cp 25).push (.cells cs.toArray 34))
 have X0 := Zz.mk ((Bx.new w cp 25).on cs 34 |>.at_ (show _ = w.heap.size + 1 by simp))
 obtain ⟨A4, c4, A11, c11, A12, c12, rfl, l4, g4, l11, g11, l12, g12⟩ := k34_open hK
 obtain ⟨B2, d2, B3, d3, rfl, m2, e2, m3, e3⟩ := k25_open hP
 have HZ := Zz.mk (hx_mk P0.out X0.out)
 clear P0 X0
 have cq := Lib.hid (fun W (hW : Below w.heap.size w W) => c_picked A12 c12 x.f11 W (Kd.C_below g12 hW) l12 hl)
 clear hl
 clear hP hK g4 g11 g12 l4 l11 l12 m2 e2 m3 e3
 have q12 := HZ.out.x.c 12
 go_enter Tryz.func67, Tryz.ntmps67
 go_wp2_with (first
  | (go_at_call 111
     with_reducible refine (cq.out _ HZ.out.x.hb).mono ?_
     rintro e v ⟨rfl, hb⟩
     replace HZ := Zz.mk (HZ.out.next hb)
     clear hb)
  | fail)
 go_ret
 exact ⟨rfl, HZ.out.x.hb⟩
end Go.Proofs.YtpdinahdcedmkaaGreatDoor.Ext
namespace Go.Proofs.YtpdinahdcedmkaaGreatDoor.ExtP
open Go.Proofs.YtpdinahdcedmkaaGreatDoor.Ext hiding blk_cell blk_set
open Go.RowKit YtpdinahdcedmkaaGreatDoorW.PrintWords Go.Proofs.YtpdinahdcedmkaaGreatDoor.Spec
theorem strOfNums_append (a b : List Int) : strOfNums (a ++ b) = strOfNums a ++ strOfNums b := by
 apply ByteArray.ext
 rw [<- Array.toList_inj, ByteArray.data_append, Array.toList_append, strOfNums_data, strOfNums_data, strOfNums_data, List.map_append]
theorem sl_dig (x : Int) (h0 : 0 <= x) (h1 : x < 10) : ∀ W, (Instr.slice 9 (.string ⟨#[48, 49, 50, 51, 52, 53, 54, 55, 56, 57, 97, 98, 99, 100, 101, 102]⟩) (some (.int .u64 x)) (some (.int .u64 (x + 1))) none).run Tryz.prog W = .ok (.string (strOfNums [48 + x])) W := by
 intro W
 obtain rfl | rfl | rfl | rfl | rfl | rfl | rfl | rfl | rfl | rfl : x = 0 \/ x = 1 \/ x = 2 \/ x = 3 \/ x = 4 \/ x = 5 \/ x = 6 \/ x = 7 \/ x = 8 \/ x = 9 := by omega
 all_goals (simp [Instr.slice, run_underlying Tryz.underlying9, go_sem]; rfl)
theorem strOfNums_size (l : List Int) : (strOfNums l).size = l.length := by
 show (strOfNums l).data.size = _
 rw [<- Array.length_toList, strOfNums_data, List.length_map]
theorem u64w (x : Int) (h : 0 <= x /\ x <= 18446744073709551615) : IntKind.u64.wrap x = x := by rw [IntKind.wrap_u64]; omega
theorem r_Dec (n : Nat) (w : World) (hn : n < 18446744073709551616) :
 Calls Tryz.prog 115 #[.int .u64 n] w fun e w' => e = .returned (.string (strOfNums (decL n))) /\ w' = w := by
 go_enter Tryz.func115, Tryz.ntmps115
 have hs0 := sl_dig ((n : Int) % 10) (by omega) (by omega)
 have hlen := decL_len 19 n (by omega)
 go_wp2
 go_loopw [0, 3] (fun v0 v3 wr => ∃ (m : Nat) (S : List Int), v0 = .int .u64 (m : Int) /\ v3 = .string (strOfNums ([48 + (m : Int) % 10] ++ S)) /\ Zz (decL n = decL m ++ S /\ m < 18446744073709551616) /\ wr = w) (fun v0 _ _ => (intOf v0).toNat)
 case atStart => exact ⟨n, [], rfl, rfl, ⟨by simp, hn⟩, rfl⟩
 case round =>
  obtain ⟨m, S, rfl, rfl, hR, rfl⟩ := hrel
  have hm64 := hR.out.2
  have hSl : S.length <= 20 := by have := congrArg List.length hR.out.1; rw [List.length_append] at this; omega
  by_cases h10 : m < 10
  · have hq : ¬ (10 : Int) <= (m : Int) := by omega
    have hE : Zz (strOfNums ([48 + (m : Int) % 10] ++ S) = strOfNums (decL n)) := ⟨by
     rw [hR.out.1, decL_lt h10]
     congr 3
     omega⟩
    clear hs0 h10
    go_wp2
    go_ret
    exact ⟨by first | rw [hE.out] | (have := hE.out; simp at this ⊢; exact this), rfl⟩
  · have hq : (10 : Int) <= (m : Int) := by omega
    have hs1 := sl_dig ((m / 10 : Nat) % 10 : Int) (by omega) (by omega)
    have hw1 : IntKind.u64.wrap ((m : Int) / 10) = ((m / 10 : Nat) : Int) := by rw [u64w _ (by omega)]; omega
    have hS : Zz (decL n = decL (m / 10) ++ ([48 + (m : Int) % 10] ++ S) /\ m / 10 < 18446744073709551616) := ⟨by rw [hR.out.1, decL_ge h10, List.append_assoc]; norm_cast, by omega⟩
    have hsz : (strOfNums [48 + ((m / 10 : Nat) : Int) % 10]).size + (strOfNums ([48 + (m : Int) % 10] ++ S)).size <= 9223372036854775807 := by rw [strOfNums_size, strOfNums_size]; simp; omega
    have hsa := fun W => run_string_add_sum (P := Tryz.prog) W (strOfNums [48 + ((m / 10 : Nat) : Int) % 10]) (strOfNums ([48 + (m : Int) % 10] ++ S)) hsz
    rw [<- strOfNums_append] at hsa
    have hlt : m / 10 < m := by omega
    generalize hx : [48 + (m : Int) % 10] ++ S = X at *
    have HX := Zz.mk hx
    clear hx hs0 hsz
    generalize hmm : m / 10 = m2 at *
    have HM := Zz.mk hmm
    clear hmm
    push_cast at *
    go_wp2
    go_roundw
    case rel => exact ⟨m2, X, rfl, rfl, hS, trivial⟩
    case measure => simp [intOf]; omega
theorem r_digS (n : Int) (w : World) (h0 : 0 <= n) (h1 : n < 9223372036854775808) :
 Calls Tryz.prog 120 #[.int .i64 n] w fun e w' => e = .returned (.string (decS n)) /\ Below w.heap.size w w' := by
 obtain ⟨m, rfl⟩ := Int.eq_ofNat_of_zero_le h0
 have Co := fun w => r_Dec m w (by omega)
 have e : decS (m : Int) = strOfNums (decL m) := by unfold decS; rw [Int.toNat_natCast]
 rw [e]
 have co := Lib.hid Co; clear Co e
 have hw : IntKind.u64.wrap (m : Int) = (m : Int) := u64w _ (by omega)
 go_enter Tryz.func120, Tryz.ntmps120
 go_wp2_with (first | (go_at_call 115; refine (co.out _).mono ?_; rintro e v ⟨rfl, rfl⟩) | fail)
 go_ret
 exact ⟨rfl, Below.refl _ _⟩
theorem r_pick (b : Bool) (s t : ByteArray) (w : World) :
 Calls Tryz.prog 119 #[.bool b, .string s, .string t] w fun e w' => e = .returned (.string (if b = true then s else t)) /\ w' = w := by
 cases b
 all_goals
  go_enter Tryz.func119, Tryz.ntmps119
  go_wp2
  go_ret
  exact ⟨rfl, rfl⟩
theorem r_sumS (b : Bool) (w : World) :
 Calls Tryz.prog 119 #[.bool b, .string ⟨#[83, 72, 65, 75, 69]⟩, .string ⟨#[83, 72, 65, 50, 53, 54]⟩] w fun e w' => e = .returned (.string (sumS b)) /\ w' = w := r_pick b _ _ w
theorem r_sumX (b : Bool) (w : World) :
 Calls Tryz.prog 119 #[.bool b, .string (⟨#[83, 72, 65, 75, 69, 50, 53, 54]⟩ : ByteArray), .string (⟨#[83, 72, 65, 50]⟩ : ByteArray)] w fun e w' => e = .returned (.string (sumX b)) /\ w' = w := r_pick b _ _ w
theorem rname1 (c : Int) (w : World) (g0 : 0 <= c) (g1 : c < 4294967296) (o : OtsR) (ho : ots c = (o, 0)) (n0 : 0 <= o.n) (n1 : o.n < 100000) (w0 : 0 <= o.w) (w1 : o.w < 100000) :
 Calls Tryz.prog 76 #[.int .i64 1, .int .u32 c] w fun e w' => e = .returned (.string (name1S o)) /\ Below w.heap.size w w' := by
 unfold name1S
 have Ck := fun w => r_Is 1 c w g0 g1
 rw [show known 1 c = true by unfold known; rw [ho]; rfl] at Ck
 have Cots := fun w => r_Ots c w g0 g1
 have Clms := fun w => r_Lms c w g0 g1
 have Cxmss := fun w => r_Xmss c w g0 g1
 rw [ho] at Cots
 generalize lms c = qLms at *
 obtain ⟨⟨b0, b1, b2, b3⟩, eb⟩ := qLms
 generalize xms c = qXmss at *
 obtain ⟨⟨d0, d1, d2, d3, d4⟩, ed⟩ := qXmss
 have Cn := fun w => r_digS o.n w n0 (by omega)
 have Cw := fun w => r_digS (o.w) w (by omega) (by omega)
 have Cs := fun w => r_sumS o.shake w
 have z1 := decS_size o.n n0 (by omega)
 have z2 := decS_size (o.w) (by omega) (by omega)
 have z3 := sumS_size o.shake
 obtain ⟨code, shake, nn, ww, p, ls⟩ := o
 simp only [OtsR.enc, LmsR.enc, XmsR.enc] at *
 have ck := Lib.hid Ck; have cots := Lib.hid Cots; have clms := Lib.hid Clms; have cxmss := Lib.hid Cxmss; have cn := Lib.hid Cn; have cw := Lib.hid Cw; have cs := Lib.hid Cs; clear Ck Cots Clms Cxmss Cn Cw Cs ho
 go_enter Tryz.func76, Tryz.ntmps76
 go_wp2_with (first
  | (go_at_call 116; refine (ck.out _).mono ?_; rintro e v1 ⟨rfl, hb1⟩)
  | (go_at_call 117; refine (cots.out _).mono ?_; rintro e v2 ⟨rfl, hb2⟩; have HB2 := Zz.mk (below_step hb1 hb2); clear hb1 hb2)
  | (go_at_call 118; refine (clms.out _).mono ?_; rintro e v3 ⟨rfl, hb3⟩; have HR := Zz.mk (krow (World.alloc_heap_new v2 (Obj.cells #[.int .u32 code, .bool shake, .int .i64 nn, .int .i64 ww, .int .i64 p, .int .i64 ls] 140)) hb3); have HB3 : Zz (Below w.heap.size w v3) := ⟨(HB2.out.alloc HB2.out.size _).trans (hb3.mono (by have := HB2.out.size; simp; omega))⟩; clear hb3)
  | (go_at_call 114; refine (cxmss.out _).mono ?_; rintro e v4 ⟨rfl, hb4⟩; replace HR := Zz.mk (krow (knew (o' := (Obj.cells #[.int .u32 b0, .bool b1, .int .i64 b2, .int .i64 b3] 144)) HR.out) hb4); have HB : Zz (Below w.heap.size w v4) := ⟨(HB3.out.alloc HB3.out.size _).trans (hb4.mono (by have := HB3.out.size; simp; omega))⟩; clear hb4)
  | fail)
 have HR := Zz.mk (knew (o' := (Obj.cells #[.int .u32 d0, .bool d1, .int .i64 d2, .int .i64 d3, .int .i64 d4] 128)) HR.out)
 have hv1 := blk_cell HR.out 1
 have hv2 := blk_cell HR.out 2
 have hv3 := blk_cell HR.out 3
 have hvz := World.block_lt_of_cell? _ _ hv1
 simp only at hvz
 have f1 : 6 + (sumS shake).size <= 9223372036854775807 := by omega
 have k1 := fun W => run_string_add_sum (P := Tryz.prog) W ((⟨#[76, 77, 79, 84, 83, 95]⟩ : ByteArray)) (sumS shake) f1
 have f2 : ((⟨#[76, 77, 79, 84, 83, 95]⟩ : ByteArray) ++ sumS shake).size + 2 <= 9223372036854775807 := by rw [ByteArray.size_append]; show 6 + _ + 2 <= _; omega
 have k2 := fun W => run_string_add_sum (P := Tryz.prog) W (((⟨#[76, 77, 79, 84, 83, 95]⟩ : ByteArray) ++ sumS shake)) ((⟨#[95, 78]⟩ : ByteArray)) f2
 have f3 : (((⟨#[76, 77, 79, 84, 83, 95]⟩ : ByteArray) ++ sumS shake) ++ (⟨#[95, 78]⟩ : ByteArray)).size + (decS nn).size <= 9223372036854775807 := by rw [ByteArray.size_append, ByteArray.size_append]; show 6 + _ + 2 + _ <= _; omega
 have k3 := fun W => run_string_add_sum (P := Tryz.prog) W ((((⟨#[76, 77, 79, 84, 83, 95]⟩ : ByteArray) ++ sumS shake) ++ (⟨#[95, 78]⟩ : ByteArray))) (decS nn) f3
 have f4 : ((((⟨#[76, 77, 79, 84, 83, 95]⟩ : ByteArray) ++ sumS shake) ++ (⟨#[95, 78]⟩ : ByteArray)) ++ decS nn).size + 2 <= 9223372036854775807 := by rw [ByteArray.size_append, ByteArray.size_append, ByteArray.size_append]; show 6 + _ + 2 + _ + 2 <= _; omega
 have k4 := fun W => run_string_add_sum (P := Tryz.prog) W (((((⟨#[76, 77, 79, 84, 83, 95]⟩ : ByteArray) ++ sumS shake) ++ (⟨#[95, 78]⟩ : ByteArray)) ++ decS nn)) ((⟨#[95, 87]⟩ : ByteArray)) f4
 have f5 : (((((⟨#[76, 77, 79, 84, 83, 95]⟩ : ByteArray) ++ sumS shake) ++ (⟨#[95, 78]⟩ : ByteArray)) ++ decS nn) ++ (⟨#[95, 87]⟩ : ByteArray)).size + (decS ww).size <= 9223372036854775807 := by rw [ByteArray.size_append, ByteArray.size_append, ByteArray.size_append, ByteArray.size_append]; show 6 + _ + 2 + _ + 2 + _ <= _; omega
 have k5 := fun W => run_string_add_sum (P := Tryz.prog) W ((((((⟨#[76, 77, 79, 84, 83, 95]⟩ : ByteArray) ++ sumS shake) ++ (⟨#[95, 78]⟩ : ByteArray)) ++ decS nn) ++ (⟨#[95, 87]⟩ : ByteArray))) (decS ww) f5
 clear f1 f2 f3 f4 f5
 go_region_held3 (fun W => W.cell? ⟨v2.heap.size, 1, none⟩ = some (.bool shake) /\ W.cell? ⟨v2.heap.size, 2, none⟩ = some (.int .i64 nn) /\ W.cell? ⟨v2.heap.size, 3, none⟩ = some (.int .i64 ww) /\ Zz (Below w.heap.size w W) /\ v2.heap.size < W.heap.size)
  (first
    | (refine ⟨by simpa using hv1, by simpa using hv2, by simpa using hv3, ⟨(HB.out.alloc HB.out.size _).drew⟩, by simpa using hvz⟩)
    | (go_split_ands
       have hsz3 := hb3.size
       refine ⟨?_, ?_, ?_, ⟨?_⟩, ?_⟩
       · (rw [(bcell hb3).1 _ _ (by assumption)]; assumption)
       · (rw [(bcell hb3).1 _ _ (by assumption)]; assumption)
       · (rw [(bcell hb3).1 _ _ (by assumption)]; assumption)
       · exact below_step (Zz.out (by assumption)) hb3
       · omega))
  (first
    | (go_simp; go_at_call 119; refine (cs.out _).mono ?_; rintro e v3 ⟨rfl, rfl⟩)
    | (go_simp; go_at_call 120; refine (cn.out _).mono ?_; rintro e v3 ⟨rfl, hb3⟩)
    | (go_simp; go_at_call 120; refine (cw.out _).mono ?_; rintro e v3 ⟨rfl, hb3⟩))
 go_wp2
 go_ret
 go_split_ands
 exact ⟨rfl, Zz.out (by assumption)⟩
theorem rname2 (c : Int) (w : World) (g0 : 0 <= c) (g1 : c < 4294967296) (o : LmsR) (ho : lms c = (o, 0)) (n0 : 0 <= o.n) (n1 : o.n < 100000) (w0 : 0 <= o.h) (w1 : o.h < 100000) :
 Calls Tryz.prog 76 #[.int .i64 2, .int .u32 c] w fun e w' => e = .returned (.string (name2S o)) /\ Below w.heap.size w w' := by
 unfold name2S
 have Ck := fun w => r_Is 2 c w g0 g1
 rw [show known 2 c = true by unfold known; rw [ho]; rfl] at Ck
 have Cots := fun w => r_Ots c w g0 g1
 have Clms := fun w => r_Lms c w g0 g1
 have Cxmss := fun w => r_Xmss c w g0 g1
 rw [ho] at Clms
 generalize ots c = qOts at *
 obtain ⟨⟨a0, a1, a2, a3, a4, a5⟩, ea⟩ := qOts
 generalize xms c = qXmss at *
 obtain ⟨⟨d0, d1, d2, d3, d4⟩, ed⟩ := qXmss
 have Cn := fun w => r_digS o.n w n0 (by omega)
 have Cw := fun w => r_digS (o.h) w (by omega) (by omega)
 have Cs := fun w => r_sumS o.shake w
 have z1 := decS_size o.n n0 (by omega)
 have z2 := decS_size (o.h) (by omega) (by omega)
 have z3 := sumS_size o.shake
 obtain ⟨code, shake, nn, hh⟩ := o
 simp only [OtsR.enc, LmsR.enc, XmsR.enc] at *
 have ck := Lib.hid Ck; have cots := Lib.hid Cots; have clms := Lib.hid Clms; have cxmss := Lib.hid Cxmss; have cn := Lib.hid Cn; have cw := Lib.hid Cw; have cs := Lib.hid Cs; clear Ck Cots Clms Cxmss Cn Cw Cs ho
 go_enter Tryz.func76, Tryz.ntmps76
 go_wp2_with (first
  | (go_at_call 116; refine (ck.out _).mono ?_; rintro e v1 ⟨rfl, hb1⟩)
  | (go_at_call 117; refine (cots.out _).mono ?_; rintro e v2 ⟨rfl, hb2⟩; have HB2 := Zz.mk (below_step hb1 hb2); clear hb1 hb2)
  | (go_at_call 118; refine (clms.out _).mono ?_; rintro e v3 ⟨rfl, hb3⟩; have HB3 : Zz (Below w.heap.size w v3) := ⟨(HB2.out.alloc HB2.out.size _).trans (hb3.mono (by have := HB2.out.size; simp; omega))⟩; clear hb3)
  | (go_at_call 114; refine (cxmss.out _).mono ?_; rintro e v4 ⟨rfl, hb4⟩; have HR := Zz.mk (krow (World.alloc_heap_new v3 (Obj.cells #[.int .u32 code, .bool shake, .int .i64 nn, .int .i64 hh] 144)) hb4); have HB : Zz (Below w.heap.size w v4) := ⟨(HB3.out.alloc HB3.out.size _).trans (hb4.mono (by have := HB3.out.size; simp; omega))⟩; clear hb4)
  | fail)
 have HR := Zz.mk (knew (o' := (Obj.cells #[.int .u32 d0, .bool d1, .int .i64 d2, .int .i64 d3, .int .i64 d4] 128)) HR.out)
 have hv1 := blk_cell HR.out 1
 have hv2 := blk_cell HR.out 2
 have hv3 := blk_cell HR.out 3
 have hvz := World.block_lt_of_cell? _ _ hv1
 simp only at hvz
 have f1 : 4 + (sumS shake).size <= 9223372036854775807 := by omega
 have k1 := fun W => run_string_add_sum (P := Tryz.prog) W ((⟨#[76, 77, 83, 95]⟩ : ByteArray)) (sumS shake) f1
 have f2 : ((⟨#[76, 77, 83, 95]⟩ : ByteArray) ++ sumS shake).size + 2 <= 9223372036854775807 := by rw [ByteArray.size_append]; show 4 + _ + 2 <= _; omega
 have k2 := fun W => run_string_add_sum (P := Tryz.prog) W (((⟨#[76, 77, 83, 95]⟩ : ByteArray) ++ sumS shake)) ((⟨#[95, 77]⟩ : ByteArray)) f2
 have f3 : (((⟨#[76, 77, 83, 95]⟩ : ByteArray) ++ sumS shake) ++ (⟨#[95, 77]⟩ : ByteArray)).size + (decS nn).size <= 9223372036854775807 := by rw [ByteArray.size_append, ByteArray.size_append]; show 4 + _ + 2 + _ <= _; omega
 have k3 := fun W => run_string_add_sum (P := Tryz.prog) W ((((⟨#[76, 77, 83, 95]⟩ : ByteArray) ++ sumS shake) ++ (⟨#[95, 77]⟩ : ByteArray))) (decS nn) f3
 have f4 : ((((⟨#[76, 77, 83, 95]⟩ : ByteArray) ++ sumS shake) ++ (⟨#[95, 77]⟩ : ByteArray)) ++ decS nn).size + 2 <= 9223372036854775807 := by rw [ByteArray.size_append, ByteArray.size_append, ByteArray.size_append]; show 4 + _ + 2 + _ + 2 <= _; omega
 have k4 := fun W => run_string_add_sum (P := Tryz.prog) W (((((⟨#[76, 77, 83, 95]⟩ : ByteArray) ++ sumS shake) ++ (⟨#[95, 77]⟩ : ByteArray)) ++ decS nn)) ((⟨#[95, 72]⟩ : ByteArray)) f4
 have f5 : (((((⟨#[76, 77, 83, 95]⟩ : ByteArray) ++ sumS shake) ++ (⟨#[95, 77]⟩ : ByteArray)) ++ decS nn) ++ (⟨#[95, 72]⟩ : ByteArray)).size + (decS hh).size <= 9223372036854775807 := by rw [ByteArray.size_append, ByteArray.size_append, ByteArray.size_append, ByteArray.size_append]; show 4 + _ + 2 + _ + 2 + _ <= _; omega
 have k5 := fun W => run_string_add_sum (P := Tryz.prog) W ((((((⟨#[76, 77, 83, 95]⟩ : ByteArray) ++ sumS shake) ++ (⟨#[95, 77]⟩ : ByteArray)) ++ decS nn) ++ (⟨#[95, 72]⟩ : ByteArray))) (decS hh) f5
 clear f1 f2 f3 f4 f5
 go_region_held3 (fun W => W.cell? ⟨v3.heap.size, 1, none⟩ = some (.bool shake) /\ W.cell? ⟨v3.heap.size, 2, none⟩ = some (.int .i64 nn) /\ W.cell? ⟨v3.heap.size, 3, none⟩ = some (.int .i64 hh) /\ Zz (Below w.heap.size w W) /\ v3.heap.size < W.heap.size)
  (first
    | (refine ⟨by simpa using hv1, by simpa using hv2, by simpa using hv3, ⟨(HB.out.alloc HB.out.size _).drew⟩, by simpa using hvz⟩)
    | (go_split_ands
       have hsz3 := hb3.size
       refine ⟨?_, ?_, ?_, ⟨?_⟩, ?_⟩
       · (rw [(bcell hb3).1 _ _ (by assumption)]; assumption)
       · (rw [(bcell hb3).1 _ _ (by assumption)]; assumption)
       · (rw [(bcell hb3).1 _ _ (by assumption)]; assumption)
       · exact below_step (Zz.out (by assumption)) hb3
       · omega))
  (first
    | (go_simp; go_at_call 119; refine (cs.out _).mono ?_; rintro e v3 ⟨rfl, rfl⟩)
    | (go_simp; go_at_call 120; refine (cn.out _).mono ?_; rintro e v3 ⟨rfl, hb3⟩)
    | (go_simp; go_at_call 120; refine (cw.out _).mono ?_; rintro e v3 ⟨rfl, hb3⟩))
 go_wp2
 go_ret
 go_split_ands
 exact ⟨rfl, Zz.out (by assumption)⟩
theorem rname3 (c : Int) (w : World) (g0 : 0 <= c) (g1 : c < 4294967296) (o : XmsR) (ho : xms c = (o, 0)) (n0 : 0 <= o.h) (n1 : o.h < 100000) (w0 : 0 <= o.n) (w1 : o.n < 100000) :
 Calls Tryz.prog 76 #[.int .i64 3, .int .u32 c] w fun e w' => e = .returned (.string (name3S o)) /\ Below w.heap.size w w' := by
 unfold name3S
 have Ck := fun w => r_Is 3 c w g0 g1
 rw [show known 3 c = true by unfold known; rw [ho]; rfl] at Ck
 have Cots := fun w => r_Ots c w g0 g1
 have Clms := fun w => r_Lms c w g0 g1
 have Cxmss := fun w => r_Xmss c w g0 g1
 rw [ho] at Cxmss
 generalize ots c = qOts at *
 obtain ⟨⟨a0, a1, a2, a3, a4, a5⟩, ea⟩ := qOts
 generalize lms c = qLms at *
 obtain ⟨⟨b0, b1, b2, b3⟩, eb⟩ := qLms
 have Cn := fun w => r_digS o.h w n0 (by omega)
 have Cw := fun w => r_digS (8 * o.n) w (by omega) (by omega)
 have Cs := fun w => r_sumX o.shake w
 have z1 := decS_size o.h n0 (by omega)
 have z2 := decS_size (8 * o.n) (by omega) (by omega)
 have z3 := sumX_size o.shake
 obtain ⟨code, shake, nn, hh, len⟩ := o
 simp only [OtsR.enc, LmsR.enc, XmsR.enc] at *
 have ck := Lib.hid Ck; have cots := Lib.hid Cots; have clms := Lib.hid Clms; have cxmss := Lib.hid Cxmss; have cn := Lib.hid Cn; have cw := Lib.hid Cw; have cs := Lib.hid Cs; clear Ck Cots Clms Cxmss Cn Cw Cs ho
 have hw8 : IntKind.i64.wrap (8 * nn) = 8 * nn := IntWalk.i64_in _ (by omega)
 go_enter Tryz.func76, Tryz.ntmps76
 go_wp2_with (first
  | (go_at_call 116; refine (ck.out _).mono ?_; rintro e v1 ⟨rfl, hb1⟩)
  | (go_at_call 117; refine (cots.out _).mono ?_; rintro e v2 ⟨rfl, hb2⟩; have HB2 := Zz.mk (below_step hb1 hb2); clear hb1 hb2)
  | (go_at_call 118; refine (clms.out _).mono ?_; rintro e v3 ⟨rfl, hb3⟩; have HB3 : Zz (Below w.heap.size w v3) := ⟨(HB2.out.alloc HB2.out.size _).trans (hb3.mono (by have := HB2.out.size; simp; omega))⟩; clear hb3)
  | (go_at_call 114; refine (cxmss.out _).mono ?_; rintro e v4 ⟨rfl, hb4⟩; have HB : Zz (Below w.heap.size w v4) := ⟨(HB3.out.alloc HB3.out.size _).trans (hb4.mono (by have := HB3.out.size; simp; omega))⟩; clear hb4)
  | fail)
 have HR := Zz.mk (World.alloc_heap_new v4 (Obj.cells #[.int .u32 code, .bool shake, .int .i64 nn, .int .i64 hh, .int .i64 len] 128))
 have hv1 := blk_cell HR.out 1
 have hv2 := blk_cell HR.out 3
 have hv3 := blk_cell HR.out 2
 have hvz := World.block_lt_of_cell? _ _ hv1
 simp only at hvz
 have f1 : 5 + (sumX shake).size <= 9223372036854775807 := by omega
 have k1 := fun W => run_string_add_sum (P := Tryz.prog) W ((⟨#[88, 77, 83, 83, 45]⟩ : ByteArray)) (sumX shake) f1
 have f2 : ((⟨#[88, 77, 83, 83, 45]⟩ : ByteArray) ++ sumX shake).size + 1 <= 9223372036854775807 := by rw [ByteArray.size_append]; show 5 + _ + 1 <= _; omega
 have k2 := fun W => run_string_add_sum (P := Tryz.prog) W (((⟨#[88, 77, 83, 83, 45]⟩ : ByteArray) ++ sumX shake)) ((⟨#[95]⟩ : ByteArray)) f2
 have f3 : (((⟨#[88, 77, 83, 83, 45]⟩ : ByteArray) ++ sumX shake) ++ (⟨#[95]⟩ : ByteArray)).size + (decS hh).size <= 9223372036854775807 := by rw [ByteArray.size_append, ByteArray.size_append]; show 5 + _ + 1 + _ <= _; omega
 have k3 := fun W => run_string_add_sum (P := Tryz.prog) W ((((⟨#[88, 77, 83, 83, 45]⟩ : ByteArray) ++ sumX shake) ++ (⟨#[95]⟩ : ByteArray))) (decS hh) f3
 have f4 : ((((⟨#[88, 77, 83, 83, 45]⟩ : ByteArray) ++ sumX shake) ++ (⟨#[95]⟩ : ByteArray)) ++ decS hh).size + 1 <= 9223372036854775807 := by rw [ByteArray.size_append, ByteArray.size_append, ByteArray.size_append]; show 5 + _ + 1 + _ + 1 <= _; omega
 have k4 := fun W => run_string_add_sum (P := Tryz.prog) W (((((⟨#[88, 77, 83, 83, 45]⟩ : ByteArray) ++ sumX shake) ++ (⟨#[95]⟩ : ByteArray)) ++ decS hh)) ((⟨#[95]⟩ : ByteArray)) f4
 have f5 : (((((⟨#[88, 77, 83, 83, 45]⟩ : ByteArray) ++ sumX shake) ++ (⟨#[95]⟩ : ByteArray)) ++ decS hh) ++ (⟨#[95]⟩ : ByteArray)).size + (decS (8 * nn)).size <= 9223372036854775807 := by rw [ByteArray.size_append, ByteArray.size_append, ByteArray.size_append, ByteArray.size_append]; show 5 + _ + 1 + _ + 1 + _ <= _; omega
 have k5 := fun W => run_string_add_sum (P := Tryz.prog) W ((((((⟨#[88, 77, 83, 83, 45]⟩ : ByteArray) ++ sumX shake) ++ (⟨#[95]⟩ : ByteArray)) ++ decS hh) ++ (⟨#[95]⟩ : ByteArray))) (decS (8 * nn)) f5
 clear f1 f2 f3 f4 f5
 go_region_held3 (fun W => W.cell? ⟨v4.heap.size, 1, none⟩ = some (.bool shake) /\ W.cell? ⟨v4.heap.size, 3, none⟩ = some (.int .i64 hh) /\ W.cell? ⟨v4.heap.size, 2, none⟩ = some (.int .i64 nn) /\ Zz (Below w.heap.size w W) /\ v4.heap.size < W.heap.size)
  (first
    | (refine ⟨by simp, by simp, by simp, ⟨(HB.out.alloc HB.out.size _).drew⟩, by simp⟩)
    | (go_split_ands
       have hsz3 := hb3.size
       refine ⟨?_, ?_, ?_, ⟨?_⟩, ?_⟩
       · (rw [(bcell hb3).1 _ _ (by assumption)]; assumption)
       · (rw [(bcell hb3).1 _ _ (by assumption)]; assumption)
       · (rw [(bcell hb3).1 _ _ (by assumption)]; assumption)
       · exact below_step (Zz.out (by assumption)) hb3
       · omega))
  (first
    | (go_simp; go_at_call 119; refine (cs.out _).mono ?_; rintro e v3 ⟨rfl, rfl⟩)
    | (go_simp; go_at_call 120; refine (cn.out _).mono ?_; rintro e v3 ⟨rfl, hb3⟩)
    | (go_simp; go_at_call 120; refine (cw.out _).mono ?_; rintro e v3 ⟨rfl, hb3⟩))
 go_wp2
 go_ret
 go_split_ands
 exact ⟨rfl, Zz.out (by assumption)⟩
theorem rname0 (k c : Int) (w : World) (g0 : 0 <= c) (g1 : c < 4294967296) (hk : known k c = false) :
 Calls Tryz.prog 76 #[.int .i64 k, .int .u32 c] w fun e w' => e = .returned (.string ⟨#[]⟩) /\ Below w.heap.size w w' := by
 have Ck := fun w => r_Is k c w g0 g1
 rw [hk] at Ck
 have ck := Lib.hid Ck; clear Ck hk
 go_enter Tryz.func76, Tryz.ntmps76
 go_wp2_with (first
  | (go_at_call 116; refine (ck.out _).mono ?_; rintro e v1 ⟨rfl, hb1⟩))
 go_ret
 exact ⟨rfl, hb1⟩
theorem r_Name (k c : Int) (w : World) (g0 : 0 <= c) (g1 : c < 4294967296) :
 Calls Tryz.prog 76 #[.int .i64 k, .int .u32 c] w fun e w' => e = .returned (.string (nameS k c)) /\ Below w.heap.size w w' := by
 unfold nameS
 cases hk : known k c with
 | false => rw [if_neg (by decide)]; exact rname0 k c w g0 g1 hk
 | true =>
   rw [if_pos rfl]
   by_cases h1 : k = 1
   · subst h1
     rw [if_pos rfl]
     have hz : (ots c).2 = 0 := by simpa [known] using hk
     have := ots_bd c
     exact rname1 c w g0 g1 _ (Prod.ext rfl hz) this.1 this.2.1 this.2.2.1 this.2.2.2
   · rw [if_neg h1]
     by_cases h2 : k = 2
     · subst h2
       rw [if_pos rfl]
       have hz : (lms c).2 = 0 := by simpa [known] using hk
       have := lms_bd c
       exact rname2 c w g0 g1 _ (Prod.ext rfl hz) this.1 this.2.1 this.2.2.1 this.2.2.2
     · rw [if_neg h2]
       by_cases h3 : k = 3
       · subst h3
         have hz : (xms c).2 = 0 := by simpa [known] using hk
         have := xms_bd c
         exact rname3 c w g0 g1 _ (Prod.ext rfl hz) this.1 this.2.1 this.2.2.1 this.2.2.2
       · unfold known at hk
         rw [if_neg h1, if_neg h2, if_neg h3] at hk
         cases hk
end Go.Proofs.YtpdinahdcedmkaaGreatDoor.ExtP
