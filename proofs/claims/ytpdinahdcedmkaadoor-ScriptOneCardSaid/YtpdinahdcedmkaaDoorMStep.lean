import Derived.Test.YtpdinahdcedmkaaDoorHSetsV
import Derived.BigRegion
/- script.put: what a letter's words say, put into an act; reader.value of sets. -/
namespace Go.Proofs.YtpdinahdcedmkaaDoor.Ext
open Go.Proofs.YtpdinahdcedmkaaDoor.P
set_option linter.unusedVariables false
set_option linter.unusedSimpArgs false
open Go.RowKit Go.Proofs.YtpdinahdcedmkaaDoorW.PrintWords Go.Proofs.YtpdinahdcedmkaaDoorW.PrintLast Go.Proofs.YtpdinahdcedmkaaDoorW.PrintMore Go.Proofs.YtpdinahdcedmkaaDoor.Spec

theorem getD_le {l : List ByteArray} {n : Nat} (h : ∀ s ∈ l, s.size ≤ n) (i : Nat) : (l.getD i ⟨#[]⟩).size ≤ n := by
  rw [List.getD_eq_getElem?_getD]
  by_cases hi : i < l.length
  · rw [List.getElem?_eq_getElem hi]
    exact h _ (List.getElem_mem hi)
  · rw [List.getElem?_eq_none (by omega)]
    exact Nat.zero_le _
theorem as_i (v : Value) (w : World) : (Instr.typeAssert (.iface 3 v) 20 3 false).run Tryd.prog w = .ok v w := by kernel_rfl
theorem as_u32 (v : Value) (w : World) : (Instr.typeAssert (.iface 35 v) 20 35 false).run Tryd.prog w = .ok v w := by kernel_rfl
theorem as_by (v : Value) (w : World) : (Instr.typeAssert (.iface 39 v) 20 39 false).run Tryd.prog w = .ok v w := by kernel_rfl
theorem as_bo (v : Value) (w : World) : (Instr.typeAssert (.iface 40 v) 20 40 false).run Tryd.prog w = .ok v w := by kernel_rfl
theorem as_rg (v : Value) (w : World) : (Instr.typeAssert (.iface 38 v) 20 38 false).run Tryd.prog w = .ok v w := by kernel_rfl
theorem as_act (v : Value) (w : World) : (Instr.typeAssert (.iface 42 v) 20 42 false).run Tryd.prog w = .ok v w := by kernel_rfl
set_option maxHeartbeats 4000000 in
set_option maxRecDepth 100000 in
theorem put_d (w : World) (ab : Nat) (u : Value) (n : Int) (h : w.cell? ⟨ab, 1, none⟩ = some u) (hf : w.frozen? ⟨ab, 1, none⟩ = false) :
    Calls Tryd.prog 29 #[.pointer (some ⟨ab, 0, none⟩), .int .i32 100, .iface 3 (.int .i64 n)] w fun e w' => e = .returned (.tuple #[]) ∧ w' = w.setCell ⟨ab, 1, none⟩ (.int .i64 n) := by
  have ha := as_i (.int .i64 n)
  go_enter Tryd.func29, Tryd.ntmps29
  go_wp2
  go_end0
  exact ⟨rfl, rfl⟩
set_option maxHeartbeats 4000000 in
set_option maxRecDepth 100000 in
theorem put_t (w : World) (ab : Nat) (u : Value) (n : Int) (h : w.cell? ⟨ab, 2, none⟩ = some u) (hf : w.frozen? ⟨ab, 2, none⟩ = false) :
    Calls Tryd.prog 29 #[.pointer (some ⟨ab, 0, none⟩), .int .i32 116, .iface 3 (.int .i64 n)] w fun e w' => e = .returned (.tuple #[]) ∧ w' = w.setCell ⟨ab, 2, none⟩ (.int .i64 n) := by
  have ha := as_i (.int .i64 n)
  go_enter Tryd.func29, Tryd.ntmps29
  go_wp2
  go_end0
  exact ⟨rfl, rfl⟩
set_option maxHeartbeats 4000000 in
set_option maxRecDepth 100000 in
theorem put_k (w : World) (ab : Nat) (u : Value) (n : Int) (h : w.cell? ⟨ab, 6, none⟩ = some u) (hf : w.frozen? ⟨ab, 6, none⟩ = false) :
    Calls Tryd.prog 29 #[.pointer (some ⟨ab, 0, none⟩), .int .i32 107, .iface 35 (.int .u32 n)] w fun e w' => e = .returned (.tuple #[]) ∧ w' = w.setCell ⟨ab, 6, none⟩ (.int .u32 n) := by
  have ha := as_u32 (.int .u32 n)
  go_enter Tryd.func29, Tryd.ntmps29
  go_wp2
  go_end0
  exact ⟨rfl, rfl⟩
set_option maxHeartbeats 4000000 in
set_option maxRecDepth 100000 in
theorem put_i (w : World) (ab : Nat) (u : Value) (n : Int) (h : w.cell? ⟨ab, 7, none⟩ = some u) (hf : w.frozen? ⟨ab, 7, none⟩ = false) :
    Calls Tryd.prog 29 #[.pointer (some ⟨ab, 0, none⟩), .int .i32 105, .iface 35 (.int .u32 n)] w fun e w' => e = .returned (.tuple #[]) ∧ w' = w.setCell ⟨ab, 7, none⟩ (.int .u32 n) := by
  have ha := as_u32 (.int .u32 n)
  go_enter Tryd.func29, Tryd.ntmps29
  go_wp2
  go_end0
  exact ⟨rfl, rfl⟩
set_option maxHeartbeats 4000000 in
set_option maxRecDepth 100000 in
theorem put_b (w : World) (ab : Nat) (u : Value) (n : Int) (h : w.cell? ⟨ab, 10, none⟩ = some u) (hf : w.frozen? ⟨ab, 10, none⟩ = false) :
    Calls Tryd.prog 29 #[.pointer (some ⟨ab, 0, none⟩), .int .i32 98, .iface 3 (.int .i64 n)] w fun e w' => e = .returned (.tuple #[]) ∧ w' = w.setCell ⟨ab, 10, none⟩ (.int .i64 n) := by
  have ha := as_i (.int .i64 n)
  go_enter Tryd.func29, Tryd.ntmps29
  go_wp2
  go_end0
  exact ⟨rfl, rfl⟩
set_option maxHeartbeats 4000000 in
set_option maxRecDepth 100000 in
theorem put_n (w : World) (ab : Nat) (u : Value) (n : Int) (h : w.cell? ⟨ab, 10, none⟩ = some u) (hf : w.frozen? ⟨ab, 10, none⟩ = false) :
    Calls Tryd.prog 29 #[.pointer (some ⟨ab, 0, none⟩), .int .i32 110, .iface 3 (.int .i64 n)] w fun e w' => e = .returned (.tuple #[]) ∧ w' = w.setCell ⟨ab, 10, none⟩ (.int .i64 n) := by
  have ha := as_i (.int .i64 n)
  go_enter Tryd.func29, Tryd.ntmps29
  go_wp2
  go_end0
  exact ⟨rfl, rfl⟩
set_option maxHeartbeats 4000000 in
set_option maxRecDepth 100000 in
theorem put_w (w : World) (ab : Nat) (u : Value) (A : Option Addr) (n c : Nat) (h : w.cell? ⟨ab, 11, none⟩ = some u) (hf : w.frozen? ⟨ab, 11, none⟩ = false) :
    Calls Tryd.prog 29 #[.pointer (some ⟨ab, 0, none⟩), .int .i32 119, .iface 39 (.slice A n c)] w fun e w' => e = .returned (.tuple #[]) ∧ w' = w.setCell ⟨ab, 11, none⟩ (.slice A n c) := by
  have ha := as_by (.slice A n c)
  go_enter Tryd.func29, Tryd.ntmps29
  go_wp2
  go_end0
  exact ⟨rfl, rfl⟩
set_option maxHeartbeats 4000000 in
set_option maxRecDepth 100000 in
theorem put_x (w : World) (ab : Nat) (u : Value) (A : Option Addr) (n c : Nat) (h : w.cell? ⟨ab, 11, none⟩ = some u) (hf : w.frozen? ⟨ab, 11, none⟩ = false) :
    Calls Tryd.prog 29 #[.pointer (some ⟨ab, 0, none⟩), .int .i32 120, .iface 39 (.slice A n c)] w fun e w' => e = .returned (.tuple #[]) ∧ w' = w.setCell ⟨ab, 11, none⟩ (.slice A n c) := by
  have ha := as_by (.slice A n c)
  go_enter Tryd.func29, Tryd.ntmps29
  go_wp2
  go_end0
  exact ⟨rfl, rfl⟩
set_option maxHeartbeats 4000000 in
set_option maxRecDepth 100000 in
theorem put_m (w : World) (ab : Nat) (u : Value) (A : Option Addr) (n c : Nat) (h : w.cell? ⟨ab, 11, none⟩ = some u) (hf : w.frozen? ⟨ab, 11, none⟩ = false) :
    Calls Tryd.prog 29 #[.pointer (some ⟨ab, 0, none⟩), .int .i32 109, .iface 39 (.slice A n c)] w fun e w' => e = .returned (.tuple #[]) ∧ w' = w.setCell ⟨ab, 11, none⟩ (.slice A n c) := by
  have ha := as_by (.slice A n c)
  go_enter Tryd.func29, Tryd.ntmps29
  go_wp2
  go_end0
  exact ⟨rfl, rfl⟩
set_option maxHeartbeats 4000000 in
set_option maxRecDepth 100000 in
theorem put_p (w : World) (ab : Nat) (u : Value) (A : Option Addr) (n c : Nat) (h : w.cell? ⟨ab, 12, none⟩ = some u) (hf : w.frozen? ⟨ab, 12, none⟩ = false) :
    Calls Tryd.prog 29 #[.pointer (some ⟨ab, 0, none⟩), .int .i32 112, .iface 40 (.slice A n c)] w fun e w' => e = .returned (.tuple #[]) ∧ w' = w.setCell ⟨ab, 12, none⟩ (.slice A n c) := by
  have ha := as_bo (.slice A n c)
  go_enter Tryd.func29, Tryd.ntmps29
  go_wp2
  go_end0
  exact ⟨rfl, rfl⟩
set_option maxHeartbeats 4000000 in
set_option maxRecDepth 100000 in
theorem put_r (w : World) (ab : Nat) (u8 u9 : Value) (lo hi : Int) (h8 : w.cell? ⟨ab, 8, none⟩ = some u8) (h9 : w.cell? ⟨ab, 9, none⟩ = some u9) (hf8 : w.frozen? ⟨ab, 8, none⟩ = false) (hf9 : w.frozen? ⟨ab, 9, none⟩ = false) :
    Calls Tryd.prog 29 #[.pointer (some ⟨ab, 0, none⟩), .int .i32 114, .iface 38 (.agg #[.int .u64 lo, .int .u64 hi])] w fun e w' => e = .returned (.tuple #[]) ∧ w' = (w.setCell ⟨ab, 8, none⟩ (.int .u64 lo)).setCell ⟨ab, 9, none⟩ (.int .u64 hi) := by
  have ha := as_rg (.agg #[.int .u64 lo, .int .u64 hi])
  go_enter Tryd.func29, Tryd.ntmps29
  go_wp2
  go_end0
  exact ⟨rfl, rfl⟩
set_option maxHeartbeats 4000000 in
set_option maxRecDepth 100000 in
theorem put_s (w : World) (ab : Nat) (u3 u4 u5 : Value) (kd xm : Int) (A : Option Addr) (n c : Nat) (h3 : w.cell? ⟨ab, 3, none⟩ = some u3) (h4 : w.cell? ⟨ab, 4, none⟩ = some u4) (h5 : w.cell? ⟨ab, 5, none⟩ = some u5) (hf3 : w.frozen? ⟨ab, 3, none⟩ = false) (hf4 : w.frozen? ⟨ab, 4, none⟩ = false) (hf5 : w.frozen? ⟨ab, 5, none⟩ = false) :
    Calls Tryd.prog 29 #[.pointer (some ⟨ab, 0, none⟩), .int .i32 115, .iface 42 (.agg #[.int .i64 0, .int .i64 0, .int .i64 0, .int .i64 kd, .slice A n c, .int .u32 xm, .int .u32 0, .int .u32 0, .int .u64 0, .int .u64 0, .int .i64 0, .slice none 0 0, .slice none 0 0])] w fun e w' => e = .returned (.tuple #[]) ∧ w' = ((((w.setCell ⟨ab, 3, none⟩ (.int .i64 kd)).setCell ⟨ab, 4, none⟩ (.slice A n c)).setCell ⟨ab, 5, none⟩ (.int .u32 xm)).alloc (.cells #[.int .i64 0, .int .i64 0, .int .i64 0, .int .i64 kd, .slice A n c, .int .u32 xm, .int .u32 0, .int .u32 0, .int .u64 0, .int .u64 0, .int .i64 0, .slice none 0 0, .slice none 0 0] 42)).drew := by
  have ha := as_act (.agg #[.int .i64 0, .int .i64 0, .int .i64 0, .int .i64 kd, .slice A n c, .int .u32 xm, .int .u32 0, .int .u32 0, .int .u64 0, .int .u64 0, .int .i64 0, .slice none 0 0, .slice none 0 0])
  have hst := act_store0 (.int .i64 0) (.int .i64 0) (.int .i64 0) (.int .i64 kd) (.slice A n c) (.int .u32 xm) (.int .u32 0) (.int .u32 0) (.int .u64 0) (.int .u64 0) (.int .i64 0) (.slice none 0 0) (.slice none 0 0) (by simp [Value.oneCell'])
  have hab : ab < w.heap.size := World.block_lt_of_cell? w _ h3
  go_enter Tryd.func29, Tryd.ntmps29
  go_upto_region 2 with fail
  go_region
  go_wp2
  go_end0
  exact ⟨rfl, rfl⟩
set_option maxHeartbeats 4000000 in
set_option maxRecDepth 100000 in
theorem value_s (w : World) (g : Nat) (p0 p1 p2 p3 : Value) (l : List ByteArray) (h : ExtQ.Rdr w g p0 p1 p2 p3 l) (hz : ∀ s ∈ l, s.size ≤ 1099511627776) :
    Calls Tryd.prog 30 #[.pointer (some ⟨g, 0, none⟩), .int .i32 115] w (VPost w g p0 p1 p2 p3 (setsL l) fun v w' => ∃ u, v = .iface 42 (.agg #[.int .i64 0, .int .i64 0, .int .i64 0, .int .i64 (setsR l).1, u, .int .u32 (setsR l).2.2, .int .u32 0, .int .u32 0, .int .u64 0, .int .u64 0, .int .i64 0, .slice none 0 0, .slice none 0 0]) ∧ Held k72 72 w.heap.size w' u (setsR l).2.1) := by
  have cs : Calls Tryd.prog 44 #[.pointer (some ⟨g, 0, none⟩)] w (SetsPost w g p0 p1 p2 p3 (setsL l) (setsR l).1 (setsR l).2.1 (setsR l).2.2) := by
    unfold setsL setsR
    by_cases hx : l.headD ⟨#[]⟩ = xmssB
    · rw [if_pos hx, if_pos hx]
      exact sets_x w g p0 p1 p2 p3 l h (fun i => getD_le hz i) hx
    · rw [if_neg hx, if_neg hx]
      exact sets_h w g p0 p1 p2 p3 l h hz hx
  have cs := Lib.hid cs
  generalize setsL l = l2 at *
  generalize (setsR l).1 = kd at *
  generalize (setsR l).2.1 = ls at *
  generalize (setsR l).2.2 = xm at *
  clear h hz
  go_enter Tryd.func30, Tryd.ntmps30
  go_wp2_with (first
    | (go_at_call 44
       refine cs.out.mono ?_
       rintro e v ⟨u, rfl, hh, hr1, hg1⟩
       have HH := Aside0.mk hh
       have HR1 := Aside0.mk hr1
       have HG1 := Aside0.mk hg1
       clear hr1 hg1 hh)
    | fail)
  go_ret
  exact ⟨_, rfl, ⟨_, rfl, HH.out⟩, HR1.out, HG1.out⟩
end Go.Proofs.YtpdinahdcedmkaaDoor.Ext
/- script.Act, letter by letter: the specification; a letter's value, and what putting it makes of the act. -/
namespace Go.Proofs.YtpdinahdcedmkaaDoor.Ext
open Go.Proofs.YtpdinahdcedmkaaDoor.P
set_option linter.unusedVariables false
set_option linter.unusedSimpArgs false
open Go.RowKit Go.Proofs.YtpdinahdcedmkaaDoorW.PrintWords Go.Proofs.YtpdinahdcedmkaaDoorW.PrintLast Go.Proofs.YtpdinahdcedmkaaDoorW.PrintMore Go.Proofs.YtpdinahdcedmkaaDoor.Spec

/-- what a letter's words make of an act, and the words that are left -/
def putS (nl : List ByteArray) (c : Int) (l : List ByteArray) (x : Act) : Act × List ByteArray :=
  if c = 100 then ({ x with f1 := ExtQ.nameI nl (l.headD ⟨#[]⟩) }, l.tail) else
  if c = 116 then ({ x with f2 := ExtQ.nameI nl (l.headD ⟨#[]⟩) }, l.tail) else
  if c = 107 then ({ x with f6 := min (ExtQ.numOf (l.headD ⟨#[]⟩)) 4294967295 }, l.tail) else
  if c = 105 then ({ x with f7 := min (ExtQ.numOf (l.headD ⟨#[]⟩)) 4294967295 }, l.tail) else
  if c = 98 then ({ x with f9 := min (ExtQ.numOf (l.headD ⟨#[]⟩)) 2147483648 }, l.tail) else
  if c = 110 then ({ x with f9 := min (ExtQ.numOf (l.headD ⟨#[]⟩)) 2147483648 }, l.tail) else
  if c = 119 then ({ x with f10 := (unhexS (l.headD ⟨#[]⟩)).1 }, l.tail) else
  if c = 120 then ({ x with f10 := (unhexS (l.headD ⟨#[]⟩)).1 }, l.tail) else
  if c = 109 then ({ x with f10 := bytesOf (unqS (l.headD ⟨#[]⟩)).1 }, l.tail) else
  if c = 114 then ({ x with f8 := ⟨ExtQ.numOf (l.headD ⟨#[]⟩), ExtQ.numOf (l.tail.headD ⟨#[]⟩)⟩ }, l.tail.tail) else
  if c = 115 then ({ x with f3 := (setsR l).1, f4 := (setsR l).2.1, f5 := (setsR l).2.2 }, setsL l) else
  ({ x with f11 := ExtQ.pickOf (l.headD ⟨#[]⟩) }, l.tail)
/-- the act's block, and all that lies beside it, while script.Act reads -/
structure AB (p : Plan) (B2 : Option Addr) (d2 : Nat) (B3 : Option Addr) (d3 : Nat) (w W : World) (ab g : Nat) (l : List ByteArray) (x : Act) (u4 u11 u12 : Value) : Prop where
  rd : ExtQ.Rdr W g (.int .i64 p.f0) (.int .i64 p.f1) (.slice B2 p.f2.length d2) (.slice B3 p.f3.length d3) l
  ac : W.heap[ab]? = some (.cells #[.int .i64 x.f0, .int .i64 x.f1, .int .i64 x.f2, .int .i64 x.f3, u4, .int .u32 x.f5, .int .u32 x.f6, .int .u32 x.f7, .int .u64 x.f8.f0, .int .u64 x.f8.f1, .int .i64 x.f9, u11, u12] 42)
  pl : W.heap[w.heap.size]? = some (.cells #[.int .i64 p.f0, .int .i64 p.f1, .slice B2 p.f2.length d2, .slice B3 p.f3.length d3] 33)
  rs : W.heap[w.heap.size + 1]? = some (.cells #[.int .i64 0, .int .i64 0, .int .i64 0, .int .i64 0, .slice none 0 0, .int .u32 0, .int .u32 0, .int .u32 0, .int .u64 0, .int .u64 0, .int .i64 0, .slice none 0 0, .slice none 0 0] 42)
  hb : Below w.heap.size w W
  h4 : Held k72 72 w.heap.size W u4 x.f4
  h11 : Held (Kd.int .u8) 5 w.heap.size W u11 x.f10
  h12 : Held Kd.bool 4 w.heap.size W u12 x.f11
  g1 : w.heap.size + 1 < ab
  g2 : ab < g
theorem headD_le {l : List ByteArray} {n : Nat} (h : ∀ s ∈ l, s.size ≤ n) : (l.headD ⟨#[]⟩).size ≤ n := by
  cases l with
  | nil => exact Nat.zero_le _
  | cons a t => exact h a (by simp)
section
variable {p : Plan} {B2 : Option Addr} {d2 : Nat} {B3 : Option Addr} {d3 : Nat} {w W W' : World} {ab g : Nat} {l l' : List ByteArray} {x x' : Act} {u4 u11 u12 u4' u11' u12' : Value}
theorem AB.kept (h : AB p B2 d2 B3 d3 w W ab g l x u4 u11 u12) {row : Option Nat} (hg : W.grownBy W' row) (hrow : ∀ k, row = some k → ab < k ∧ ∀ cells fr, W.heap[k]? ≠ some (.cells cells 72 fr) ∧ W.heap[k]? ≠ some (.cells cells 5 fr) ∧ W.heap[k]? ≠ some (.cells cells 4 fr)) (hr : ExtQ.Rdr W' g (.int .i64 p.f0) (.int .i64 p.f1) (.slice B2 p.f2.length d2) (.slice B3 p.f3.length d3) l') : AB p B2 d2 B3 d3 w W' ab g l' x u4 u11 u12 := by
  have g1 := h.g1
  have g2 := h.g2
  refine ⟨hr, ?_, ?_, ?_, h.hb.grown hg h.hb.size (fun k hk => by have := (hrow k hk).1; omega), h.h4.step flat_lv hg (fun k hk c f => ((hrow k hk).2 c f).1), h.h11.step (flat_int _) hg (fun k hk c f => ((hrow k hk).2 c f).2.1), h.h12.step flat_bool hg (fun k hk c f => ((hrow k hk).2 c f).2.2), h.g1, h.g2⟩
  · exact (hg.block _ (Array.getElem?_eq_some_iff.1 h.ac).1 (fun e => by have := (hrow _ e.symm).1; omega)).trans h.ac
  · exact (hg.block _ (Array.getElem?_eq_some_iff.1 h.pl).1 (fun e => by have := (hrow _ e.symm).1; omega)).trans h.pl
  · exact (hg.block _ (Array.getElem?_eq_some_iff.1 h.rs).1 (fun e => by have := (hrow _ e.symm).1; omega)).trans h.rs
theorem AB.value (h : AB p B2 d2 B3 d3 w W ab g l x u4 u11 u12) (hr : ExtQ.Rdr W' g (.int .i64 p.f0) (.int .i64 p.f1) (.slice B2 p.f2.length d2) (.slice B3 p.f3.length d3) l') (hg : W.grownBy W' (some g)) : AB p B2 d2 B3 d3 w W' ab g l' x u4 u11 u12 := by
  obtain ⟨A, c, hrow, _⟩ := h.rd.out
  exact h.kept hg (fun k hk => by cases hk; exact ⟨h.g2, fun cells fr => ⟨fun he => (by rw [hrow] at he; cases he), fun he => (by rw [hrow] at he; cases he), fun he => (by rw [hrow] at he; cases he)⟩⟩) hr
theorem AB.below (h : AB p B2 d2 B3 d3 w W ab g l x u4 u11 u12) (hb : Below W.heap.size W W') : AB p B2 d2 B3 d3 w W' ab g l x u4 u11 u12 := h.kept (grown_of_below hb none) (fun k hk => by cases hk) (h.rd.below hb)
/-- the act's own block is written -/
theorem AB.set (h : AB p B2 d2 B3 d3 w W ab g l x u4 u11 u12) (hg : W.grownBy W' (some ab)) (hac : W'.heap[ab]? = some (.cells #[.int .i64 x'.f0, .int .i64 x'.f1, .int .i64 x'.f2, .int .i64 x'.f3, u4', .int .u32 x'.f5, .int .u32 x'.f6, .int .u32 x'.f7, .int .u64 x'.f8.f0, .int .u64 x'.f8.f1, .int .i64 x'.f9, u11', u12'] 42))
    (h4 : Held k72 72 w.heap.size W u4' x'.f4) (h11 : Held (Kd.int .u8) 5 w.heap.size W u11' x'.f10) (h12 : Held Kd.bool 4 w.heap.size W u12' x'.f11) : AB p B2 d2 B3 d3 w W' ab g l x' u4' u11' u12' := by
  have g1 := h.g1
  have g2 := h.g2
  refine ⟨h.rd.step hg (fun k hk => (by cases hk; exact ⟨by omega, fun cells fr he => (by rw [h.ac] at he; cases he)⟩)), hac, ?_, ?_, h.hb.grown hg h.hb.size (fun k hk => by cases hk; omega), h4.step flat_lv hg (fun k hk cells fr he => (by cases hk; rw [h.ac] at he; cases he)), h11.step (flat_int _) hg (fun k hk cells fr he => (by cases hk; rw [h.ac] at he; cases he)), h12.step flat_bool hg (fun k hk cells fr he => (by cases hk; rw [h.ac] at he; cases he)), h.g1, h.g2⟩
  · exact (hg.block _ (Array.getElem?_eq_some_iff.1 h.pl).1 (by simp; omega)).trans h.pl
  · exact (hg.block _ (Array.getElem?_eq_some_iff.1 h.rs).1 (by simp; omega)).trans h.rs
end
/-- a value stands ready to be put -/
def Ready (p : Plan) (B2 : Option Addr) (d2 : Nat) (B3 : Option Addr) (d3 : Nat) (w W : World) (ab g : Nat) (c : Int) (y : Act × List ByteArray) (v : Value) : Prop :=
  Calls Tryd.prog 29 #[.pointer (some ⟨ab, 0, none⟩), .int .i32 c, v] W fun e W' => e = .returned (.tuple #[]) ∧ W.grownBy W' (some ab) ∧ ∃ u4 u11 u12, AB p B2 d2 B3 d3 w W' ab g y.2 y.1 u4 u11 u12
def ValuePost (p : Plan) (B2 : Option Addr) (d2 : Nat) (B3 : Option Addr) (d3 : Nat) (w W : World) (ab g : Nat) (c : Int) (y : Act × List ByteArray) (e : Ending) (W' : World) : Prop := ∃ v, e = .returned v ∧ W.grownBy W' (some g) ∧ Ready p B2 d2 B3 d3 w W' ab g c y v
theorem step_k (p : Plan) (B2 : Option Addr) (d2 : Nat) (B3 : Option Addr) (d3 : Nat) (w W : World) (ab g : Nat) (l : List ByteArray) (x : Act) (u4 u11 u12 : Value) (h : AB p B2 d2 B3 d3 w W ab g l x u4 u11 u12) (hz : ∀ s ∈ l, s.size ≤ 1073741824) : Calls Tryd.prog 30 #[.pointer (some ⟨g, 0, none⟩), .int .i32 107] W (ValuePost p B2 d2 B3 d3 w W ab g 107 ({ x with f6 := min (ExtQ.numOf (l.headD ⟨#[]⟩)) 4294967295 }, l.tail)) := by
  have hd := headD_le hz
  refine (value_k W g _ _ _ _ l h.rd (by omega)).mono ?_
  rintro e W' ⟨v, rfl, rfl, hr, hg⟩
  have hA := h.value hr hg
  refine ⟨_, rfl, hg, (put_k W' ab _ _ (blk_cell hA.ac 6) (blk_free hA.ac 6)).mono ?_⟩
  rintro e W2 ⟨rfl, rfl⟩
  exact ⟨rfl, ExtQ.setCell_grown _ _ _ _, _, _, _, hA.set (ExtQ.setCell_grown _ _ _ _) (blk_set hA.ac 6 _) hA.h4 hA.h11 hA.h12⟩
theorem step_i (p : Plan) (B2 : Option Addr) (d2 : Nat) (B3 : Option Addr) (d3 : Nat) (w W : World) (ab g : Nat) (l : List ByteArray) (x : Act) (u4 u11 u12 : Value) (h : AB p B2 d2 B3 d3 w W ab g l x u4 u11 u12) (hz : ∀ s ∈ l, s.size ≤ 1073741824) : Calls Tryd.prog 30 #[.pointer (some ⟨g, 0, none⟩), .int .i32 105] W (ValuePost p B2 d2 B3 d3 w W ab g 105 ({ x with f7 := min (ExtQ.numOf (l.headD ⟨#[]⟩)) 4294967295 }, l.tail)) := by
  have hd := headD_le hz
  refine (value_i W g _ _ _ _ l h.rd (by omega)).mono ?_
  rintro e W' ⟨v, rfl, rfl, hr, hg⟩
  have hA := h.value hr hg
  refine ⟨_, rfl, hg, (put_i W' ab _ _ (blk_cell hA.ac 7) (blk_free hA.ac 7)).mono ?_⟩
  rintro e W2 ⟨rfl, rfl⟩
  exact ⟨rfl, ExtQ.setCell_grown _ _ _ _, _, _, _, hA.set (ExtQ.setCell_grown _ _ _ _) (blk_set hA.ac 7 _) hA.h4 hA.h11 hA.h12⟩
theorem step_b (p : Plan) (B2 : Option Addr) (d2 : Nat) (B3 : Option Addr) (d3 : Nat) (w W : World) (ab g : Nat) (l : List ByteArray) (x : Act) (u4 u11 u12 : Value) (h : AB p B2 d2 B3 d3 w W ab g l x u4 u11 u12) (hz : ∀ s ∈ l, s.size ≤ 1073741824) : Calls Tryd.prog 30 #[.pointer (some ⟨g, 0, none⟩), .int .i32 98] W (ValuePost p B2 d2 B3 d3 w W ab g 98 ({ x with f9 := min (ExtQ.numOf (l.headD ⟨#[]⟩)) 2147483648 }, l.tail)) := by
  have hd := headD_le hz
  refine (value_b W g _ _ _ _ l h.rd (by omega)).mono ?_
  rintro e W' ⟨v, rfl, rfl, hr, hg⟩
  have hA := h.value hr hg
  refine ⟨_, rfl, hg, (put_b W' ab _ _ (blk_cell hA.ac 10) (blk_free hA.ac 10)).mono ?_⟩
  rintro e W2 ⟨rfl, rfl⟩
  exact ⟨rfl, ExtQ.setCell_grown _ _ _ _, _, _, _, hA.set (ExtQ.setCell_grown _ _ _ _) (blk_set hA.ac 10 _) hA.h4 hA.h11 hA.h12⟩
theorem step_n (p : Plan) (B2 : Option Addr) (d2 : Nat) (B3 : Option Addr) (d3 : Nat) (w W : World) (ab g : Nat) (l : List ByteArray) (x : Act) (u4 u11 u12 : Value) (h : AB p B2 d2 B3 d3 w W ab g l x u4 u11 u12) (hz : ∀ s ∈ l, s.size ≤ 1073741824) : Calls Tryd.prog 30 #[.pointer (some ⟨g, 0, none⟩), .int .i32 110] W (ValuePost p B2 d2 B3 d3 w W ab g 110 ({ x with f9 := min (ExtQ.numOf (l.headD ⟨#[]⟩)) 2147483648 }, l.tail)) := by
  have hd := headD_le hz
  refine (value_n W g _ _ _ _ l h.rd (by omega)).mono ?_
  rintro e W' ⟨v, rfl, rfl, hr, hg⟩
  have hA := h.value hr hg
  refine ⟨_, rfl, hg, (put_n W' ab _ _ (blk_cell hA.ac 10) (blk_free hA.ac 10)).mono ?_⟩
  rintro e W2 ⟨rfl, rfl⟩
  exact ⟨rfl, ExtQ.setCell_grown _ _ _ _, _, _, _, hA.set (ExtQ.setCell_grown _ _ _ _) (blk_set hA.ac 10 _) hA.h4 hA.h11 hA.h12⟩
theorem step_d (p : Plan) (B2 : Option Addr) (d2 : Nat) (B3 : Option Addr) (d3 : Nat) (w W : World) (ab g : Nat) (l : List ByteArray) (x : Act) (u4 u11 u12 : Value) (h : AB p B2 d2 B3 d3 w W ab g l x u4 u11 u12) (hz : ∀ s ∈ l, s.size ≤ 1073741824) (hC : Kd.C Kd.string w B2 p.f2.length p.f2) (hc : p.f2.length ≤ d2) (hl : p.f2.length ≤ 1048576) (hn : ∀ i, (p.f2.getD i ByteArray.empty).size ≤ 17592186044416) (hT : Lib.Utf8Tabs 0 1 w) : Calls Tryd.prog 30 #[.pointer (some ⟨g, 0, none⟩), .int .i32 100] W (ValuePost p B2 d2 B3 d3 w W ab g 100 ({ x with f1 := ExtQ.nameI p.f2 (l.headD ⟨#[]⟩) }, l.tail)) := by
  have hd := headD_le hz
  refine (value_d W g _ _ _ B2 d2 p.f2 l h.rd (fun W2 hg2 => ⟨Kd.C_below hC (h.hb.grown hg2 h.hb.size (fun k hk => by cases hk; have := h.g1; have := h.g2; omega)), ⟨Utf8Tabs_below hT (h.hb.grown hg2 h.hb.size (fun k hk => by cases hk; have := h.g1; have := h.g2; omega))⟩⟩) hc hl hn).mono ?_
  rintro e W' ⟨v, rfl, rfl, hr, hg⟩
  have hA := h.value hr hg
  refine ⟨_, rfl, hg, (put_d W' ab _ _ (blk_cell hA.ac 1) (blk_free hA.ac 1)).mono ?_⟩
  rintro e W2 ⟨rfl, rfl⟩
  exact ⟨rfl, ExtQ.setCell_grown _ _ _ _, _, _, _, hA.set (ExtQ.setCell_grown _ _ _ _) (blk_set hA.ac 1 _) hA.h4 hA.h11 hA.h12⟩
theorem step_t (p : Plan) (B2 : Option Addr) (d2 : Nat) (B3 : Option Addr) (d3 : Nat) (w W : World) (ab g : Nat) (l : List ByteArray) (x : Act) (u4 u11 u12 : Value) (h : AB p B2 d2 B3 d3 w W ab g l x u4 u11 u12) (hz : ∀ s ∈ l, s.size ≤ 1073741824) (hC : Kd.C Kd.string w B2 p.f2.length p.f2) (hc : p.f2.length ≤ d2) (hl : p.f2.length ≤ 1048576) (hn : ∀ i, (p.f2.getD i ByteArray.empty).size ≤ 17592186044416) (hT : Lib.Utf8Tabs 0 1 w) : Calls Tryd.prog 30 #[.pointer (some ⟨g, 0, none⟩), .int .i32 116] W (ValuePost p B2 d2 B3 d3 w W ab g 116 ({ x with f2 := ExtQ.nameI p.f2 (l.headD ⟨#[]⟩) }, l.tail)) := by
  have hd := headD_le hz
  refine (value_t W g _ _ _ B2 d2 p.f2 l h.rd (fun W2 hg2 => ⟨Kd.C_below hC (h.hb.grown hg2 h.hb.size (fun k hk => by cases hk; have := h.g1; have := h.g2; omega)), ⟨Utf8Tabs_below hT (h.hb.grown hg2 h.hb.size (fun k hk => by cases hk; have := h.g1; have := h.g2; omega))⟩⟩) hc hl hn).mono ?_
  rintro e W' ⟨v, rfl, rfl, hr, hg⟩
  have hA := h.value hr hg
  refine ⟨_, rfl, hg, (put_t W' ab _ _ (blk_cell hA.ac 2) (blk_free hA.ac 2)).mono ?_⟩
  rintro e W2 ⟨rfl, rfl⟩
  exact ⟨rfl, ExtQ.setCell_grown _ _ _ _, _, _, _, hA.set (ExtQ.setCell_grown _ _ _ _) (blk_set hA.ac 2 _) hA.h4 hA.h11 hA.h12⟩
theorem step_w (p : Plan) (B2 : Option Addr) (d2 : Nat) (B3 : Option Addr) (d3 : Nat) (w W : World) (ab g : Nat) (l : List ByteArray) (x : Act) (u4 u11 u12 : Value) (h : AB p B2 d2 B3 d3 w W ab g l x u4 u11 u12) (hz : ∀ s ∈ l, s.size ≤ 1073741824) : Calls Tryd.prog 30 #[.pointer (some ⟨g, 0, none⟩), .int .i32 119] W (ValuePost p B2 d2 B3 d3 w W ab g 119 ({ x with f10 := (unhexS (l.headD ⟨#[]⟩)).1 }, l.tail)) := by
  have hd := headD_le hz
  refine (value_w W g _ _ _ _ l h.rd (by omega)).mono ?_
  rintro e W' ⟨v, rfl, ⟨u, rfl, hu⟩, hr, hg⟩
  have hA := h.value hr hg
  have hu' := hu.lower h.hb.size
  obtain ⟨A, c, rfl, -, -, -⟩ := hu.out
  refine ⟨_, rfl, hg, (put_w W' ab _ A _ c (blk_cell hA.ac 11) (blk_free hA.ac 11)).mono ?_⟩
  rintro e W2 ⟨rfl, rfl⟩
  exact ⟨rfl, ExtQ.setCell_grown _ _ _ _, _, _, _, hA.set (ExtQ.setCell_grown _ _ _ _) (blk_set hA.ac 11 _) hA.h4 hu' hA.h12⟩
theorem step_x (p : Plan) (B2 : Option Addr) (d2 : Nat) (B3 : Option Addr) (d3 : Nat) (w W : World) (ab g : Nat) (l : List ByteArray) (x : Act) (u4 u11 u12 : Value) (h : AB p B2 d2 B3 d3 w W ab g l x u4 u11 u12) (hz : ∀ s ∈ l, s.size ≤ 1073741824) : Calls Tryd.prog 30 #[.pointer (some ⟨g, 0, none⟩), .int .i32 120] W (ValuePost p B2 d2 B3 d3 w W ab g 120 ({ x with f10 := (unhexS (l.headD ⟨#[]⟩)).1 }, l.tail)) := by
  have hd := headD_le hz
  refine (value_x W g _ _ _ _ l h.rd (by omega)).mono ?_
  rintro e W' ⟨v, rfl, ⟨u, rfl, hu⟩, hr, hg⟩
  have hA := h.value hr hg
  have hu' := hu.lower h.hb.size
  obtain ⟨A, c, rfl, -, -, -⟩ := hu.out
  refine ⟨_, rfl, hg, (put_x W' ab _ A _ c (blk_cell hA.ac 11) (blk_free hA.ac 11)).mono ?_⟩
  rintro e W2 ⟨rfl, rfl⟩
  exact ⟨rfl, ExtQ.setCell_grown _ _ _ _, _, _, _, hA.set (ExtQ.setCell_grown _ _ _ _) (blk_set hA.ac 11 _) hA.h4 hu' hA.h12⟩
theorem step_m (p : Plan) (B2 : Option Addr) (d2 : Nat) (B3 : Option Addr) (d3 : Nat) (w W : World) (ab g : Nat) (l : List ByteArray) (x : Act) (u4 u11 u12 : Value) (h : AB p B2 d2 B3 d3 w W ab g l x u4 u11 u12) (hz : ∀ s ∈ l, s.size ≤ 1073741824) (hq : (unqS (l.headD ⟨#[]⟩)).1.size ≤ 17592186044416) (hT : Lib.Utf8Tabs 0 1 w) : Calls Tryd.prog 30 #[.pointer (some ⟨g, 0, none⟩), .int .i32 109] W (ValuePost p B2 d2 B3 d3 w W ab g 109 ({ x with f10 := bytesOf (unqS (l.headD ⟨#[]⟩)).1 }, l.tail)) := by
  have hd := headD_le hz
  refine (value_m W g _ _ _ _ l h.rd (by omega) hq (fun W2 hg2 => Utf8Tabs_below hT (h.hb.grown hg2 h.hb.size (fun k hk => by cases hk; have := h.g1; have := h.g2; omega)))).mono ?_
  rintro e W' ⟨v, rfl, ⟨u, rfl, hu⟩, hr, hg⟩
  have hA := h.value hr hg
  have hu' := hu.lower h.hb.size
  obtain ⟨A, c, rfl, -, -, -⟩ := hu.out
  refine ⟨_, rfl, hg, (put_m W' ab _ A _ c (blk_cell hA.ac 11) (blk_free hA.ac 11)).mono ?_⟩
  rintro e W2 ⟨rfl, rfl⟩
  exact ⟨rfl, ExtQ.setCell_grown _ _ _ _, _, _, _, hA.set (ExtQ.setCell_grown _ _ _ _) (blk_set hA.ac 11 _) hA.h4 hu' hA.h12⟩
theorem step_r (p : Plan) (B2 : Option Addr) (d2 : Nat) (B3 : Option Addr) (d3 : Nat) (w W : World) (ab g : Nat) (l : List ByteArray) (x : Act) (u4 u11 u12 : Value) (h : AB p B2 d2 B3 d3 w W ab g l x u4 u11 u12) (hz : ∀ s ∈ l, s.size ≤ 1073741824) : Calls Tryd.prog 30 #[.pointer (some ⟨g, 0, none⟩), .int .i32 114] W (ValuePost p B2 d2 B3 d3 w W ab g 114 ({ x with f8 := ⟨ExtQ.numOf (l.headD ⟨#[]⟩), ExtQ.numOf (l.tail.headD ⟨#[]⟩)⟩ }, l.tail.tail)) := by
  have hd := headD_le hz
  refine (value_r W g _ _ _ _ l h.rd (by omega) (Nat.le_trans (headD_le (fun s hs => hz s (List.mem_of_mem_tail hs))) (by omega))).mono ?_
  rintro e W' ⟨v, rfl, rfl, hr, hg⟩
  have hA := h.value hr hg
  refine ⟨_, rfl, hg, (put_r W' ab _ _ _ _ (blk_cell hA.ac 8) (blk_cell hA.ac 9) (blk_free hA.ac 8) (blk_free hA.ac 9)).mono ?_⟩
  rintro e W2 ⟨rfl, rfl⟩
  have hg2 := (ExtQ.setCell_grown W' ab 8 (.int .u64 (ExtQ.numOf (l.headD ⟨#[]⟩)))).trans (ExtQ.setCell_grown _ ab 9 (.int .u64 (ExtQ.numOf (l.tail.headD ⟨#[]⟩))))
  exact ⟨rfl, hg2, _, _, _, hA.set hg2 (blk_set (blk_set hA.ac 8 _) 9 _) hA.h4 hA.h11 hA.h12⟩
theorem step_p (p : Plan) (B2 : Option Addr) (d2 : Nat) (B3 : Option Addr) (d3 : Nat) (w W : World) (ab g : Nat) (l : List ByteArray) (x : Act) (u4 u11 u12 : Value) (h : AB p B2 d2 B3 d3 w W ab g l x u4 u11 u12) (hz : ∀ s ∈ l, s.size ≤ 1073741824) : Calls Tryd.prog 30 #[.pointer (some ⟨g, 0, none⟩), .int .i32 112] W (ValuePost p B2 d2 B3 d3 w W ab g 112 ({ x with f11 := ExtQ.pickOf (l.headD ⟨#[]⟩) }, l.tail)) := by
  have hd := headD_le hz
  refine (ExtQ.value_p W g _ _ _ _ l h.rd (by omega)).mono ?_
  rintro e W' ⟨u, rfl, hR, hr, hg⟩
  have hA := h.value hr hg
  have hu' := (Held.of hR).lower h.hb.size
  obtain ⟨A, c, rfl, -, -, -⟩ := hu'.out
  refine ⟨_, rfl, hg, (put_p W' ab _ A _ c (blk_cell hA.ac 12) (blk_free hA.ac 12)).mono ?_⟩
  rintro e W2 ⟨rfl, rfl⟩
  exact ⟨rfl, ExtQ.setCell_grown _ _ _ _, _, _, _, hA.set (ExtQ.setCell_grown _ _ _ _) (blk_set hA.ac 12 _) hA.h4 hA.h11 hu'⟩
theorem step_s (p : Plan) (B2 : Option Addr) (d2 : Nat) (B3 : Option Addr) (d3 : Nat) (w W : World) (ab g : Nat) (l : List ByteArray) (x : Act) (u4 u11 u12 : Value) (h : AB p B2 d2 B3 d3 w W ab g l x u4 u11 u12) (hz : ∀ s ∈ l, s.size ≤ 1073741824) : Calls Tryd.prog 30 #[.pointer (some ⟨g, 0, none⟩), .int .i32 115] W (ValuePost p B2 d2 B3 d3 w W ab g 115 ({ x with f3 := (setsR l).1, f4 := (setsR l).2.1, f5 := (setsR l).2.2 }, setsL l)) := by
  have hd := headD_le hz
  refine (value_s W g _ _ _ _ l h.rd (fun s hs => Nat.le_trans (hz s hs) (by omega))).mono ?_
  rintro e W' ⟨v, rfl, ⟨u, rfl, hu⟩, hr, hg⟩
  have hA := h.value hr hg
  have hu' := hu.lower h.hb.size
  obtain ⟨A, c, rfl, -, -, -⟩ := hu.out
  refine ⟨_, rfl, hg, (put_s W' ab _ _ _ _ _ A _ c (blk_cell hA.ac 3) (blk_cell hA.ac 4) (blk_cell hA.ac 5) (blk_free hA.ac 3) (blk_free hA.ac 4) (blk_free hA.ac 5)).mono ?_⟩
  rintro e W2 ⟨rfl, rfl⟩
  have hg2 := ((ExtQ.setCell_grown W' ab 3 (.int .i64 (setsR l).1)).trans (ExtQ.setCell_grown _ ab 4 (.slice A (setsR l).2.1.length c))).trans (ExtQ.setCell_grown _ ab 5 (.int .u32 (setsR l).2.2))
  have hA2 := hA.set (x' := { x with f3 := (setsR l).1, f4 := (setsR l).2.1, f5 := (setsR l).2.2 }) hg2 (blk_set (blk_set (blk_set hA.ac 3 _) 4 _) 5 _) hu' hA.h11 hA.h12
  have hb2 := fun o => Below.drew (ExtQ.cellsBelow (((W'.setCell ⟨ab, 3, none⟩ (.int .i64 (setsR l).1)).setCell ⟨ab, 4, none⟩ (.slice A (setsR l).2.1.length c)).setCell ⟨ab, 5, none⟩ (.int .u32 (setsR l).2.2)) o)
  exact ⟨rfl, hg2.trans (grown_of_below (hb2 _) _), _, _, _, hA2.below (hb2 _)⟩
end Go.Proofs.YtpdinahdcedmkaaDoor.Ext
