import Derived.Test.YtpdinahdcedmkaaDoorSRows
import Derived.Lib.Builder
import Derived.Shelf.Strings.Builder1
import Derived.Test.YtpdinahdcedmkaaDoorMHSets
import Derived.Test.YtpdinahdcedmkaaDoorP1
import Derived.Laws.CopyOwn
import Derived.Test.YtpdinahdcedmkaaDoorMRHead
/- script.picked: marks as a text of '+' and '-'. -/
namespace Go.Proofs.YtpdinahdcedmkaaDoor.Ext
set_option linter.unusedVariables false
open Go.RowKit Go.Proofs.YtpdinahdcedmkaaDoorW.PrintWords Go.Proofs.YtpdinahdcedmkaaDoorW.PrintLast Go.Proofs.YtpdinahdcedmkaaDoorW.PrintMore

theorem sizeBuilder : (Tryd.prog.info? 129).map (·.size) = some 2 := by kernel_rfl
theorem liesBuilder : liesAt Tryd.prog Tryd.prog.depth 129 (2 / Tryd.prog.cellsOf 129) 0 129 1 = true := by kernel_rfl
set_option maxHeartbeats 1000000 in
set_option maxRecDepth 100000 in
theorem copy_used (b : Nat) (w : World) (h0 : w.cell? ⟨b, 0, none⟩ = some (.pointer (some ⟨b, 0, none⟩))) :
    Calls Tryd.prog 93 #[.pointer (some ⟨b, 0, none⟩)] w fun e w' => e = .returned (.tuple #[]) ∧ w' = w := by
  obtain ⟨j, hj, _⟩ := Option.map_eq_some_iff.1 sizeBuilder
  go_enter Tryd.func93, Tryd.ntmps93
  go_wp2
  rw [Lib.run_neq_ptr_same w _ Tryd.underlying127 hj]
  go_wp2
  go_end0
  exact ⟨rfl, rfl⟩
set_option maxHeartbeats 1000000 in
set_option maxRecDepth 100000 in
theorem copy_fresh (b : Nat) (w : World) (h0 : w.cell? ⟨b, 0, none⟩ = some (.pointer none)) (hsh : w.shape? b = some (129, 2)) (hfz : w.frozen? ⟨b, 0, none⟩ = false) :
    Calls Tryd.prog 93 #[.pointer (some ⟨b, 0, none⟩)] w fun e w' => e = .returned (.tuple #[]) ∧ w' = w.setCell ⟨b, 0, none⟩ (.pointer (some ⟨b, 0, none⟩)) := by
  obtain ⟨j, hj, hjs⟩ := Option.map_eq_some_iff.1 sizeBuilder
  go_enter Tryd.func93, Tryd.ntmps93
  go_wp2
  rw [Lib.run_to_unsafe w ⟨b, 0, none⟩ Tryd.underlying127 Tryd.underlying157 hj (by rw [hjs]; decide) hsh (Nat.zero_lt_succ 1)]
  simp only [Result.andThen]
  rw [Oper.upon_value]
  go_wp2
  rw [run_callFunc_extern Tryd.func99 (by kernel_rfl) (by kernel_rfl) (by kernel_rfl) (e := Extern.AbiNoEscape.same) (by kernel_rfl)]
  rw [Lib.run_noEscape]
  simp only [Result.andThen]
  rw [Oper.upon_value]
  go_wp2
  rw [Lib.run_from_unsafe w ⟨b, 0, none⟩ Tryd.underlying157 Tryd.underlying127 hj hsh liesBuilder]
  simp only [Result.andThen]
  rw [Oper.upon_value]
  go_wp2
  go_end0
  exact ⟨rfl, rfl⟩
theorem c_copyCheck (B b : Nat) (bs : List Value) (w : World) (h : Lib.IsBuilder 129 5 B b bs w) :
    Calls Tryd.prog 93 #[.pointer (some ⟨b, 0, none⟩)] w fun e w' => e = .returned (.tuple #[]) ∧ (Lib.BuilderAt 129 5 B b (.pointer (some ⟨b, 0, none⟩)) bs w' ∧ Below B w w') := by
  rcases h with h | h
  · refine (copy_fresh b w h.cell0 h.shape h.frozen0).mono ?_
    rintro e w' ⟨rfl, rfl⟩
    exact ⟨rfl, h.used _, (Below.refl B w).setCell (p := ⟨b, 0, none⟩) h.1 _⟩
  · refine (copy_used b w h.cell0).mono ?_
    rintro e w' ⟨rfl, rfl⟩
    exact ⟨rfl, h, Below.refl B _⟩
set_option maxHeartbeats 2000000 in
set_option maxRecDepth 100000 in
theorem c_WriteByte (B b : Nat) (bs : List Value) (c : Int) (w : World) (h : Lib.IsBuilder 129 5 B b bs w) (hlen : bs.length + 1 ≤ 140737488355328) (hBw : B ≤ w.heap.size) :
    Calls Tryd.prog 73 #[.pointer (some ⟨b, 0, none⟩), .int .u8 c] w fun e w' => e = .returned .nilIface ∧ (Lib.BuilderAt 129 5 B b (.pointer (some ⟨b, 0, none⟩)) (bs ++ [.int .u8 c]) w' ∧ Below B w w') := by
  obtain ⟨i0, hi, hz0, hz1, hz2⟩ := info_parts info_u8
  go_enter Tryd.func73, Tryd.ntmps73
  go_wp2_with (go_at_call 93; refine (c_copyCheck B b bs _ h).mono ?_)
  rintro e w1 ⟨rfl, h1, hb1⟩
  obtain ⟨hB, v, hbk, hown, hne⟩ := h1
  have c0 : w1.cell? ⟨b, 0, none⟩ = some (.pointer (some ⟨b, 0, none⟩)) := by rw [Lib.cell_of_heap hbk]; rfl
  have c1 : w1.cell? ⟨b, 1, none⟩ = some v := by rw [Lib.cell_of_heap hbk]; rfl
  go_wp2_with (at_builtin; refine wpList_append_own _ rfl _ _ 39 rfl B 5 i0 (.int .u8 0) 1 1 Tryd.underlying39 hi hz0 hz1 hz2 rfl (by decide) _ _ _ rfl (hown.alloc _) ⟨w1.heap.size, 0, none⟩ 1 1 [.int .u8 c] rfl rfl ?c1 ?c2 ?c3 ?c4 ?c5 ?_)
  case c1 =>
    intro j u hj
    match j, hj with
    | 0, hj => simp at hj; subst hj; simp [Addr.add]
  case c2 => intro u hu; simp at hu; subst hu; rfl
  case c3 => unfold maxLen; omega
  case c4 => omega
  case c5 => have := hb1.size; simp; omega
  intro v' w2 hown' hgrow _
  have hlt : b < w1.heap.size := by
    rcases Nat.lt_or_ge b w1.heap.size with h' | h'
    · exact h'
    · simp [Array.getElem?_eq_none h'] at hbk
  have hb2 : w2.heap[b]? = some (.cells #[.pointer (some ⟨b, 0, none⟩), v] 129 (0, 0)) := by
    rw [hgrow.block b (by simp; omega) (fun e => hne e.symm), Lib.alloc_old w1 _ b hlt]
    exact hbk
  have d0 : w2.cell? ⟨b, 0, none⟩ = some (.pointer (some ⟨b, 0, none⟩)) := by rw [Lib.cell_of_heap hb2]; rfl
  have d1 : w2.cell? ⟨b, 1, none⟩ = some v := by rw [Lib.cell_of_heap hb2]; rfl
  have f1 : w2.frozen? ⟨b, 1, none⟩ = false := Lib.frozen_of_heap hb2 1
  obtain ⟨g, cap, rfl⟩ : ∃ g cap, v' = .slice (some ⟨g, 0, none⟩) (bs.length + 1) cap := by
    rcases hown'.2 with ⟨_, h0⟩ | ⟨g, cap, cur, hv, _⟩
    · omega
    · exact ⟨g, cap, hv⟩
  go_wp2
  go_ret
  refine ⟨rfl, ?_, ?_⟩
  · exact Lib.BuilderAt.put (T := 129) (e := 5) hB hb2 (bs' := bs ++ [.int .u8 c]) (by simpa using hown') (by decide)
  · exact ((hb1.alloc (by have := hb1.size; omega) _).grown hgrow (by have := hb1.size; simp; omega) (fun k hk => (hown.lt k hk).1)).setCell (p := ⟨b, 1, none⟩) hB _

/-- marks in bytes -/
def markB (b : Bool) : UInt8 := if b = true then 43 else 45
def pickL (l : List Bool) : List UInt8 := if l.length = 0 then [46] else l.map markB
def pickS (l : List Bool) : ByteArray := ⟨(pickL l).toArray⟩
theorem takeb_snoc (l : List Bool) (i : Nat) (hi : i < l.length) : l.take (i + 1) = l.take i ++ [l.getD i false] := by
  rw [List.take_add_one, List.getD_eq_getElem?_getD, List.getElem?_eq_getElem hi]
  rfl
set_option maxHeartbeats 2000000 in
set_option maxRecDepth 100000 in
theorem c_picked (A : Option Addr) (c : Nat) (l : List Bool) (w : World) (hA : Kd.C Kd.bool w A l.length l) (hc : l.length ≤ c) (hl : l.length ≤ 1048576) :
    Calls Tryd.prog 56 #[.slice A l.length c] w fun e w' => e = .returned (.string (pickS l)) ∧ Below w.heap.size w w' := by
  have HA := Aside0.mk hA
  clear hA
  by_cases h0 : l.length = 0
  · rw [show pickS l = ⟨#[46]⟩ by unfold pickS pickL; rw [if_pos h0]]
    generalize l.length = n at *
    subst h0
    go_enter Tryd.func56, Tryd.ntmps56
    go_wp2
    go_ret
    exact ⟨rfl, Below.refl _ _⟩
  · have t0 : ((l.length : Int) == 0) = false := beq_eq_false_iff_ne.2 (by omega)
    have HP := Aside0.mk (show pickL l = l.map markB by unfold pickL; rw [if_neg h0])
    have cw := Lib.hid c_WriteByte
    clear h0
    go_enter Tryd.func56, Tryd.ntmps56
    go_wp2
    go_loopw [11] (fun v11 wr => ∃ i : Nat, i ≤ l.length ∧ v11 = .int .i64 (i : Int) ∧ Aside0 (Lib.IsBuilder 129 5 w.heap.size w.heap.size (Lib.byteCells ((l.take i).map markB)) wr) ∧ Aside0 (Below w.heap.size w wr)) (fun v11 _ => l.length - (intOf v11).toNat)
    case atStart =>
      refine ⟨0, by omega, rfl, ⟨.inl ⟨Nat.le_refl _, .slice none 0 0, heap_alloc_new w _, World.ownsRow_nil _ _ _ _, by simp [Value.ownBlock]⟩⟩, ⟨(Below.refl _ _).alloc (Nat.le_refl _) _⟩⟩
    case round =>
      obtain ⟨i, hi, rfl, hI, hW⟩ := hrel
      by_cases hlt : i < l.length
      · have hti : (i : Int) < (l.length : Int) := by omega
        obtain ⟨ad1, ea1, hx1⟩ := Kd.at_bool (Kd.C_below HA.out hW.out) (i : Int) (by omega) hti
        subst ea1
        rw [Int.toNat_natCast] at hx1
        have hn1 : rdOf false l (i : Int) = l.getD i false := rfl
        rw [hn1] at hx1
        have hlen : (Lib.byteCells ((l.take i).map markB)).length + 1 ≤ 140737488355328 := by simp [Lib.byteCells]; omega
        have HS := Aside0.mk (show ∀ b, l.getD i false = b → Lib.byteCells ((l.take (i + 1)).map markB) = Lib.byteCells ((l.take i).map markB) ++ [.int .u8 (((markB b).toNat : Nat) : Int)] from fun b hb => by
          rw [takeb_snoc l i hlt, hb]; simp [Lib.byteCells])
        clear hn1
        cases hb : l.getD i false with
        | true =>
          rw [hb] at hx1
          have HS1 := Aside0.mk (HS.out true hb)
          clear HS hb
          go_wp2_with (first
            | (go_at_call 73
               refine (cw.out w.heap.size w.heap.size _ 43 wr hI.out hlen hW.out.size).mono ?_
               rintro e v ⟨rfl, hbb, hb⟩
               have HI2 := Aside0.mk hbb
               have HB2 := Aside0.mk (hW.out.trans hb)
               clear hbb hb)
            | fail)
          go_roundw
          case rel => exact ⟨i + 1, by omega, by go_num, ⟨by rw [HS1.out]; exact .inr HI2.out⟩, HB2⟩
          case measure => simp [intOf]; omega
        | false =>
          rw [hb] at hx1
          have HS1 := Aside0.mk (HS.out false hb)
          clear HS hb
          go_wp2_with (first
            | (go_at_call 73
               refine (cw.out w.heap.size w.heap.size _ 45 wr hI.out hlen hW.out.size).mono ?_
               rintro e v ⟨rfl, hbb, hb⟩
               have HI2 := Aside0.mk hbb
               have HB2 := Aside0.mk (hW.out.trans hb)
               clear hbb hb)
            | fail)
          go_roundw
          case rel => exact ⟨i + 1, by omega, by go_num, ⟨by rw [HS1.out]; exact .inr HI2.out⟩, HB2⟩
          case measure => simp [intOf]; omega
      · obtain rfl : i = l.length := by omega
        have hcs := Tryd.Builder_String_any w.heap.size w.heap.size ((l.take l.length).map markB) wr hI.out hW.out.size
        rw [List.take_of_length_le (Nat.le_refl _), ← HP.out] at hcs
        have cs := Lib.hid hcs
        clear hcs hI
        go_wp2_with (first
          | (go_at_call 74
             refine cs.out.mono ?_
             rintro e v ⟨rfl, hb⟩)
          | fail)
        go_ret
        exact ⟨rfl, hW.out.trans hb⟩
end Go.Proofs.YtpdinahdcedmkaaDoor.Ext
/- Equality of lists: slices.Equal of bools, levels and strings, octet.Same, the document's Equal. -/
namespace Go.Proofs.YtpdinahdcedmkaaDoor.Ext
open Go.Proofs.YtpdinahdcedmkaaDoor.P
set_option linter.unusedVariables false
set_option linter.unusedSimpArgs false
open Go.RowKit Go.Proofs.YtpdinahdcedmkaaDoorW.PrintWords Go.Proofs.YtpdinahdcedmkaaDoorW.PrintLast Go.Proofs.YtpdinahdcedmkaaDoorW.PrintMore Go.Proofs.YtpdinahdcedmkaaDoor.Spec

theorem actT_info : (Tryd.prog.info? 42).map (·.size) = some 13 := by kernel_rfl
/-- a zero act's cells -/
abbrev actZ : Array Value := #[.int .i64 0, .int .i64 0, .int .i64 0, .int .i64 0, .slice none 0 0, .int .u32 0, .int .u32 0, .int .u32 0, .int .u64 0, .int .u64 0, .int .i64 0, .slice none 0 0, .slice none 0 0]
theorem act_store0 (c0 c1 c2 c3 c4 c5 c6 c7 c8 c9 c10 c11 c12 : Value) (ho : #[c0, c1, c2, c3, c4, c5, c6, c7, c8, c9, c10, c11, c12].all (·.oneCell') = true) (w : World) : (storeCells ⟨w.heap.size, 0, none⟩ [c0, c1, c2, c3, c4, c5, c6, c7, c8, c9, c10, c11, c12]).run Tryd.prog (w.alloc (.cells actZ 42)) = .ok () (w.alloc (.cells #[c0, c1, c2, c3, c4, c5, c6, c7, c8, c9, c10, c11, c12] 42)) :=
  run_storeCells_new (P := Tryd.prog) w 42 actZ #[c0, c1, c2, c3, c4, c5, c6, c7, c8, c9, c10, c11, c12] (by show _ = some 13; exact actT_info) rfl ho
/-- are two lists equal, element by element? -/
def eqBy {α : Type} (q : α → α → Bool) : List α → List α → Bool
  | [], [] => true
  | x :: t, y :: u => q x y && eqBy q t u
  | [], _ :: _ => false
  | _ :: _, [] => false
theorem eqBy_len {α : Type} (q : α → α → Bool) : ∀ a b : List α, a.length ≠ b.length → eqBy q a b = false
  | [], [], h => absurd rfl h
  | x :: t, y :: u, h => by unfold eqBy; rw [eqBy_len q t u (fun e => h (by simp [e]))]; simp
  | [], _ :: _, _ => rfl
  | _ :: _, [], _ => rfl
theorem eqBy_drop {α : Type} (q : α → α → Bool) (z : α) (a b : List α) (i : Nat) (ha : i < a.length) (hb : i < b.length) : eqBy q (a.drop i) (b.drop i) = (q (a.getD i z) (b.getD i z) && eqBy q (a.drop (i + 1)) (b.drop (i + 1))) := by
  rw [List.drop_eq_getElem_cons ha, List.drop_eq_getElem_cons hb, List.getD_eq_getElem?_getD, List.getD_eq_getElem?_getD, List.getElem?_eq_getElem ha, List.getElem?_eq_getElem hb]
  rfl
theorem eqBy_end {α : Type} (q : α → α → Bool) (a b : List α) (i : Nat) (ha : a.length ≤ i) (hb : b.length ≤ i) : eqBy q (a.drop i) (b.drop i) = true := by
  rw [List.drop_of_length_le ha, List.drop_of_length_le hb]; rfl
def lvq (a b : Lv) : Bool := a.f0 == b.f0 && (a.f1 == b.f1)
attribute [local go_sem high] eqLv
def boq (a b : Bool) : Bool := a == b
end Go.Proofs.YtpdinahdcedmkaaDoor.Ext
/- the law's big: is a plan too long to be looked at? -/
namespace Go.Proofs.YtpdinahdcedmkaaDoor.Ext
open Go.Proofs.YtpdinahdcedmkaaDoor.P
set_option linter.unusedVariables false
set_option linter.unusedSimpArgs false
open Go.RowKit Go.Proofs.YtpdinahdcedmkaaDoorW.PrintWords Go.Proofs.YtpdinahdcedmkaaDoorW.PrintLast Go.Proofs.YtpdinahdcedmkaaDoorW.PrintMore

def muchS (x : Act) : Bool := decide (40000 < x.f10.length) || (decide (2000 < x.f11.length) || decide (50 < x.f4.length))
set_option maxHeartbeats 4000000 in
set_option maxRecDepth 100000 in
theorem c_much (x : Act) (cs : List Value) (w : World) (hK : k42.K w x cs) :
    Calls Tryd.prog 16 #[.agg cs.toArray] w (BoolB (muchS x) w) := by
  have X0 := Aside0.mk (Bx.new w cs 42)
  obtain ⟨A4, c4, A11, c11, A12, c12, rfl, l4, g4, l11, g11, l12, g12⟩ := k42_open hK
  have b4 : x.f4.length ≤ 9223372036854775807 := g4.2.1
  have b11 : x.f10.length ≤ 9223372036854775807 := g11.2.1
  have b12 : x.f11.length ≤ 9223372036854775807 := g12.2.1
  clear hK g4 g11 g12 l4 l11 l12
  unfold muchS
  generalize x.f4.length = n4 at *
  generalize x.f10.length = n11 at *
  generalize x.f11.length = n12 at *
  have q4 := X0.out.c 4
  have q11 := X0.out.c 11
  have q12 := X0.out.c 12
  go_enter Tryd.func16, Tryd.ntmps16
  go_wp2_with fail
  all_goals
    go_ret
    refine boolB_i ?_ X0.out.hb
    clear X0 q4 q11 q12
    try simp only [*, Bool.or_true, Bool.true_or, Bool.or_false, Bool.false_or, decide_true, decide_false]
    try first | done | omega | (rw [Bool.eq_iff_iff]; simp; try omega)
def bigL (l : List ByteArray) : Bool := l.any fun s => decide (1000 < s.size)
def bigS (p : Plan) : Bool := (decide (40 < p.f2.length) || decide (60 < p.f3.length)) || (bigL p.f2 || p.f3.any muchS)
theorem drop_getS (l : List ByteArray) (i : Nat) (h : i < l.length) : l.drop i = l.getD i ByteArray.empty :: l.drop (i + 1) := by
  rw [List.drop_eq_getElem_cons h]
  congr 1
  rw [List.getD_eq_getElem?_getD, List.getElem?_eq_getElem h]
  rfl
set_option maxHeartbeats 8000000 in
set_option maxRecDepth 100000 in
theorem c_big (p : Plan) (cp : List Value) (w : World) (hP : k33.K w p cp) :
    Calls Tryd.prog 15 #[.agg cp.toArray] w (BoolB (bigS p) w) := by
  have cM := Lib.hid (fun i cs W (hW : Below w.heap.size w W) (h1 : k42.K w (p.f3.getD i z42) cs) => c_much (p.f3.getD i z42) cs W (k42.K_below hW h1))
  have P0 := Aside0.mk (Bx.new w cp 33)
  obtain ⟨B2, d2, B3, d3, rfl, m2, e2, m3, e3⟩ := k33_open hP
  have hn2 : p.f2.length ≤ 9223372036854775807 := e2.2.1
  have hn3 : p.f3.length ≤ 9223372036854775807 := e3.2.1
  have HC := Aside0.mk e3
  have HN := Aside0.mk e2
  clear hP m2 e2 m3 e3
  obtain ⟨R, hR⟩ : ∃ R, bigS p = R := ⟨_, rfl⟩
  rw [hR]
  unfold bigS at hR
  have HR := Lib.hid hR
  clear hR
  have r2 := P0.out.c 2
  have r3 := P0.out.c 3
  by_cases hbg : 40 < p.f2.length ∨ 60 < p.f3.length
  · obtain rfl : R = true := by
      rw [← HR.out]
      rcases hbg with h | h
      · rw [decide_eq_true h]; rfl
      · rw [decide_eq_true h, Bool.or_true]; rfl
    clear HR
    rcases Nat.lt_or_ge 40 p.f2.length with h1 | h1
    · have t1 : (40 : Int) < (p.f2.length : Int) := by omega
      clear hbg h1
      go_enter Tryd.func15, Tryd.ntmps15
      go_wp2_with fail
      go_ret
      exact ⟨rfl, P0.out.hb⟩
    · have t1 : ¬ (40 : Int) < (p.f2.length : Int) := by omega
      have t2 : (60 : Int) < (p.f3.length : Int) := by omega
      clear hbg h1
      go_enter Tryd.func15, Tryd.ntmps15
      go_wp2_with fail
      go_ret
      exact ⟨rfl, P0.out.hb⟩
  · have t1 : ¬ (40 : Int) < (p.f2.length : Int) := by omega
    have t2 : ¬ (60 : Int) < (p.f3.length : Int) := by omega
    have HA0 := Lib.hid (show (bigL p.f2 || p.f3.any muchS) = R by rw [← HR.out, decide_eq_false (by omega), decide_eq_false (by omega)]; rfl)
    clear HR hbg
    go_enter Tryd.func15, Tryd.ntmps15
    go_wp2_with fail
    clear t1 t2
    go_loop [20] (fun v20 => ∃ i : Nat, v20 = .int .i64 i ∧ i ≤ p.f2.length ∧ Aside0 ((bigL (p.f2.drop i) || p.f3.any muchS) = R)) (fun v20 => p.f2.length - (intOf v20).toNat)
    case atStart => exact ⟨0, rfl, by omega, ⟨HA0.out⟩⟩
    case round =>
      obtain ⟨i, rfl, hi, HA⟩ := hrel
      by_cases hlt : i < p.f2.length
      · obtain ⟨ad, e0, hx⟩ := Kd.at_string HN.out (i : Int) (by omega) (by omega)
        cases e0
        simp only [rdOf, Int.toNat_natCast] at hx
        have hx1 := (P0.out.hb.cell (World.block_lt_of_cell? w _ hx)).trans hx
        clear hx
        have HA1 := HA.out
        unfold bigL at HA1
        rw [drop_getS p.f2 i hlt, List.any_cons] at HA1
        generalize p.f2.getD i ByteArray.empty = s at *
        clear HA
        by_cases hb : 1000 < s.size
        · obtain rfl : R = true := by rw [← HA1, decide_eq_true hb]; rfl
          have t3 : (1000 : Int) < (s.size : Int) := by omega
          clear HA1
          go_wp2
          go_ret
          exact ⟨rfl, P0.out.hb⟩
        · have HA3 := Aside0.mk (show (bigL (p.f2.drop (i + 1)) || p.f3.any muchS) = R by rw [← HA1, decide_eq_false hb]; rfl)
          have t3 : ¬ (1000 : Int) < (s.size : Int) := by omega
          clear HA1
          go_wp2
          go_round
          case rel => exact ⟨i + 1, by go_num, by omega, HA3⟩
          case measure => simp [intOf]; omega
      · have hA := HA.out
        rw [List.drop_of_length_le (by omega)] at hA
        have hA : p.f3.any muchS = R := hA
        have HA2 := Aside0.mk hA
        clear hA HA
        go_wp2
        go_loopw [31] (fun v31 wr => ∃ j : Nat, v31 = .int .i64 j ∧ j ≤ p.f3.length ∧ Aside0 ((p.f3.drop j).any muchS = R) ∧ Aside0 (Bx w wr w.heap.size [.int .i64 p.f0, .int .i64 p.f1, .slice B2 p.f2.length d2, .slice B3 p.f3.length d3] 33)) (fun v31 _ => p.f3.length - (intOf v31).toNat)
        case atStart => exact ⟨0, rfl, by omega, ⟨HA2.out⟩, P0⟩
        case round =>
          clear r2 r3
          obtain ⟨j, rfl, hj, HJ, HP⟩ := hrel
          by_cases hlj : j < p.f3.length
          · obtain ⟨ad, A4, c4, A11, c11, A12, c12, e3, hx0, hx1, hx2, hx3, hx4, hx5, hx6, hx7, hx8, hx9, hx10, hx11, hx12, h4, g4, h11, g11, h12, g12⟩ := at_T42 HC.out (j : Int) (by omega) (by omega)
            cases e3
            have cc := Lib.hid (fun W hW => cM.out j _ W hW (k42_mk w _ h4 g4 h11 g11 h12 g12))
            have HA1 := HJ.out
            rw [drop_cons34 p.f3 j hlj, List.any_cons] at HA1
            simp only [rd_T42, Int.toNat_natCast] at *
            clear g4 g11 g12 h4 h11 h12 HJ
            generalize p.f3.getD j z42 = x at *
            generalize muchS x = m at *
            have HA3 := Lib.hid HA1
            clear HA1
            replace hx0 := (HP.out.hb.cell (World.block_lt_of_cell? w _ hx0)).trans hx0
            replace hx1 := (HP.out.hb.cell (World.block_lt_of_cell? w _ hx1)).trans hx1
            replace hx2 := (HP.out.hb.cell (World.block_lt_of_cell? w _ hx2)).trans hx2
            replace hx3 := (HP.out.hb.cell (World.block_lt_of_cell? w _ hx3)).trans hx3
            replace hx4 := (HP.out.hb.cell (World.block_lt_of_cell? w _ hx4)).trans hx4
            replace hx5 := (HP.out.hb.cell (World.block_lt_of_cell? w _ hx5)).trans hx5
            replace hx6 := (HP.out.hb.cell (World.block_lt_of_cell? w _ hx6)).trans hx6
            replace hx7 := (HP.out.hb.cell (World.block_lt_of_cell? w _ hx7)).trans hx7
            replace hx8 := (HP.out.hb.cell (World.block_lt_of_cell? w _ hx8)).trans hx8
            replace hx9 := (HP.out.hb.cell (World.block_lt_of_cell? w _ hx9)).trans hx9
            replace hx10 := (HP.out.hb.cell (World.block_lt_of_cell? w _ hx10)).trans hx10
            replace hx11 := (HP.out.hb.cell (World.block_lt_of_cell? w _ hx11)).trans hx11
            replace hx12 := (HP.out.hb.cell (World.block_lt_of_cell? w _ hx12)).trans hx12
            have hst := act_store0 (.int .i64 x.f0) (.int .i64 x.f1) (.int .i64 x.f2) (.int .i64 x.f3) (.slice A4 x.f4.length c4) (.int .u32 x.f5) (.int .u32 x.f6) (.int .u32 x.f7) (.int .u64 x.f8.f0) (.int .u64 x.f8.f1) (.int .i64 x.f9) (.slice A11 x.f10.length c11) (.slice A12 x.f11.length c12) (by simp [Value.oneCell'])
            have X0 := Aside0.mk (HP.out.on [.int .i64 x.f0, .int .i64 x.f1, .int .i64 x.f2, .int .i64 x.f3, .slice A4 x.f4.length c4, .int .u32 x.f5, .int .u32 x.f6, .int .u32 x.f7, .int .u64 x.f8.f0, .int .u64 x.f8.f1, .int .i64 x.f9, .slice A11 x.f10.length c11, .slice A12 x.f11.length c12] 42)
            replace HP := Aside0.mk (HP.out.push (.cells #[.int .i64 x.f0, .int .i64 x.f1, .int .i64 x.f2, .int .i64 x.f3, .slice A4 x.f4.length c4, .int .u32 x.f5, .int .u32 x.f6, .int .u32 x.f7, .int .u64 x.f8.f0, .int .u64 x.f8.f1, .int .i64 x.f9, .slice A11 x.f10.length c11, .slice A12 x.f11.length c12] 42))
            go_upto_region 12 with fail
            generalize wr.alloc (.cells #[.int .i64 x.f0, .int .i64 x.f1, .int .i64 x.f2, .int .i64 x.f3, .slice A4 x.f4.length c4, .int .u32 x.f5, .int .u32 x.f6, .int .u32 x.f7, .int .u64 x.f8.f0, .int .u64 x.f8.f1, .int .i64 x.f9, .slice A11 x.f10.length c11, .slice A12 x.f11.length c12] 42) = W7 at *
            clear hx0 hx1 hx2 hx3 hx4 hx5 hx6 hx7 hx8 hx9 hx10 hx11 hx12 hst
            have q0 := X0.out.c 0
            have q1 := X0.out.c 1
            have q2 := X0.out.c 2
            have q3 := X0.out.c 3
            have q4 := X0.out.c 4
            have q5 := X0.out.c 5
            have q6 := X0.out.c 6
            have q7 := X0.out.c 7
            have q8 := X0.out.c 8
            have q9 := X0.out.c 9
            have q10 := X0.out.c 10
            have q11 := X0.out.c 11
            have q12 := X0.out.c 12
            cases m with
            | false =>
              go_wp2_with (first
                | (go_at_call 16
                   with_reducible refine (cc.out _ HP.out.hb).mono ?_
                   rintro e v2 ⟨rfl, hb⟩
                   replace HP := Aside0.mk (HP.out.next hb)
                   clear hb)
                | fail)
              go_roundw
              case rel => exact ⟨j + 1, by go_num, by omega, ⟨by rw [← HA3.out]; rfl⟩, HP⟩
              case measure => simp [intOf]; omega
            | true =>
              obtain rfl : R = true := by rw [← HA3.out]; rfl
              go_wp2_with (first
                | (go_at_call 16
                   with_reducible refine (cc.out _ HP.out.hb).mono ?_
                   rintro e v2 ⟨rfl, hb⟩
                   replace HP := Aside0.mk (HP.out.next hb)
                   clear hb)
                | fail)
              go_ret
              exact ⟨rfl, HP.out.hb⟩
          · obtain rfl : R = false := by rw [← HJ.out, List.drop_of_length_le (by omega)]; rfl
            go_wp2
            go_ret
            exact ⟨rfl, HP.out.hb⟩
end Go.Proofs.YtpdinahdcedmkaaDoor.Ext
/- What a line has of each letter, as a specification: sayB, lineB; how long these are. -/
namespace Go.Proofs.YtpdinahdcedmkaaDoor.Ext
open Go.Proofs.YtpdinahdcedmkaaDoor.P
set_option linter.unusedVariables false
set_option linter.unusedSimpArgs false
open Go.RowKit Go.Proofs.YtpdinahdcedmkaaDoorW.PrintWords Go.Proofs.YtpdinahdcedmkaaDoorW.PrintLast Go.Proofs.YtpdinahdcedmkaaDoorW.PrintMore Go.Proofs.YtpdinahdcedmkaaDoor.Spec

theorem lvF_size (a : ByteArray) (v : Lv) : (lvF a v).size ≤ a.size + 202 := by
  have h1 := nameS_size 2 v.f0
  have h2 := nameS_size 1 v.f1
  unfold lvF
  simp only [ByteArray.size_append]
  show _ + (1 + _ + 1 + _) ≤ _
  omega
theorem lvF_fold (l : List Lv) : ∀ a : ByteArray, (l.foldl lvF a).size ≤ a.size + 202 * l.length := by
  induction l with
  | nil => intro a; simp
  | cons v t ih =>
    intro a
    have h1 := ih (lvF a v)
    have h2 := lvF_size a v
    rw [List.foldl_cons, List.length_cons]
    omega
theorem setsB_size (x : Act) : (setsB x).size ≤ 105 + 202 * x.f4.length := by
  unfold setsB
  split
  · have := nameS_size 3 x.f5
    rw [ByteArray.size_append]
    show 5 + _ ≤ _
    omega
  · have := lvF_fold x.f4 ⟨#[104, 115, 115]⟩
    have h : (⟨#[104, 115, 115]⟩ : ByteArray).size = 3 := rfl
    omega
theorem quoteF_len (s : ByteArray) : ∀ f pos, (quoteF s (rns s f pos)).length ≤ 4 * (s.size - pos) := by
  intro f
  induction f with
  | zero => intro pos; simp [rns, quoteF]
  | succ f ih =>
    intro pos
    unfold rns
    split
    · rename_i hp
      have h1 := quoteP_len s pos hp
      have h2 := width_le s pos hp
      have h3 := ih (pos + (Utf8.decode s pos).2)
      have h4 := Lib.decode_width_pos s pos hp
      unfold quoteF at h3 ⊢
      rw [List.flatMap_cons, List.length_append]
      omega
    · simp [quoteF]
theorem quoteS_size (s : ByteArray) : (quoteS s).size ≤ 4 * s.size + 2 := by
  have := quoteF_len s s.size 0
  unfold quoteS runesOf
  rw [strOfNums_size]
  simp only [List.length_append, List.length_cons, List.length_nil]
  omega
theorem pickS_size (l : List Bool) : (pickS l).size ≤ l.length + 1 := by
  unfold pickS pickL
  show (List.toArray _).size ≤ _
  rw [List.size_toArray]
  split
  · simp
  · simp
/-- what a line has of a letter -/
def sayB (l : List ByteArray) (x : Act) (c : Int) : ByteArray :=
  if c = 100 then quoteS (l.getD x.f1.toNat ByteArray.empty) else
  if c = 116 then quoteS (l.getD x.f2.toNat ByteArray.empty) else
  if c = 107 then decS (IntKind.u64.wrap x.f6) else
  if c = 105 then decS (IntKind.u64.wrap x.f7) else
  if c = 98 then decS (IntKind.u64.wrap x.f9) else
  if c = 110 then decS (IntKind.u64.wrap x.f9) else
  if c = 119 then strOfNums (hexS x.f10) else
  if c = 120 then strOfNums (hexS x.f10) else
  if c = 109 then quoteS (strOfNums x.f10) else
  if c = 114 then (decS x.f8.f0 ++ ⟨#[32]⟩) ++ decS x.f8.f1 else
  if c = 115 then setsB x else pickS x.f11
/-- what is known of an act whose line is said -/
structure SayOk (l : List ByteArray) (x : Act) : Prop where
  d : 0 ≤ x.f1 ∧ x.f1 < (l.length : Int)
  t : 0 ≤ x.f2 ∧ x.f2 < (l.length : Int)
  nm : ∀ i, (l.getD i ByteArray.empty).size ≤ 1048576
  by_ : Bytes x.f10
  dl : x.f10.length ≤ 1048576
  pk : x.f11.length ≤ 1048576
  ll : x.f4.length ≤ 1048576
  lo : 0 ≤ x.f8.f0 ∧ x.f8.f0 < 18446744073709551616
  hi : 0 ≤ x.f8.f1 ∧ x.f8.f1 < 18446744073709551616
  bd : ActBd x
theorem wrap_u64_bd (n : Int) : 0 ≤ IntKind.u64.wrap n ∧ IntKind.u64.wrap n < 18446744073709551616 := by rw [IntKind.wrap_u64]; omega
theorem sayB_size {l : List ByteArray} {x : Act} (h : SayOk l x) (c : Int) : (sayB l x c).size ≤ 1073741824 := by
  have h1 := quoteS_size (l.getD x.f1.toNat ByteArray.empty)
  have h2 := quoteS_size (l.getD x.f2.toNat ByteArray.empty)
  have h3 := h.nm x.f1.toNat
  have h4 := h.nm x.f2.toNat
  have h5 := decS_size _ (wrap_u64_bd x.f6).2
  have h6 := decS_size _ (wrap_u64_bd x.f7).2
  have h7 := decS_size _ (wrap_u64_bd x.f9).2
  have h8 := decS_size _ h.lo.2
  have h9 := decS_size _ h.hi.2
  have h10 := setsB_size x
  have h11 := pickS_size x.f11
  have h12 := quoteS_size (strOfNums x.f10)
  have h13 := h.dl
  have h14 := h.pk
  have h15 := h.ll
  rw [strOfNums_size] at h12
  have h16 : (strOfNums (hexS x.f10)).size = 2 * x.f10.length := by rw [strOfNums_size, hexS_len]
  have h17 : ((decS x.f8.f0 ++ ⟨#[32]⟩) ++ decS x.f8.f1).size ≤ 41 := by
    rw [ByteArray.size_append, ByteArray.size_append]
    show _ + 1 + _ ≤ _
    omega
  unfold sayB
  generalize quoteS (l.getD x.f1.toNat ByteArray.empty) = a1 at *
  generalize quoteS (l.getD x.f2.toNat ByteArray.empty) = a2 at *
  generalize quoteS (strOfNums x.f10) = a3 at *
  generalize strOfNums (hexS x.f10) = a4 at *
  generalize (decS x.f8.f0 ++ ⟨#[32]⟩) ++ decS x.f8.f1 = a5 at *
  generalize decS (IntKind.u64.wrap x.f6) = a6 at *
  generalize decS (IntKind.u64.wrap x.f7) = a7 at *
  generalize decS (IntKind.u64.wrap x.f9) = a8 at *
  generalize setsB x = a9 at *
  generalize pickS x.f11 = a10 at *
  have key : ∀ {p : Prop} [Decidable p] {a b : ByteArray}, a.size ≤ 1073741824 → b.size ≤ 1073741824 → (if p then a else b).size ≤ 1073741824 := fun {p} _ {a b} ha hb => by
    by_cases hp : p
    · rw [if_pos hp]; exact ha
    · rw [if_neg hp]; exact hb
  exact key (by omega) (key (by omega) (key (by omega) (key (by omega) (key (by omega) (key (by omega) (key (by omega) (key (by omega) (key (by omega) (key (by omega) (key (by omega) (by omega)))))))))))
def lineF (l : List ByteArray) (x : Act) (a : ByteArray) (c : UInt8) : ByteArray := a ++ (⟨#[32]⟩ ++ sayB l x ((c.toNat : Nat) : Int))
/-- an act's line -/
def lineB (l : List ByteArray) (x : Act) : ByteArray := (rowOf x.f0).2.data.toList.foldl (lineF l x) (rowOf x.f0).1
theorem row_ascii (d : Int) (i : Nat) (h : i < (rowOf d).2.size) : ((rowOf d).2[i]'h).toNat < 128 := by
  have key : ∀ n : Fin 18, ∀ i : Fin 8, i.val < (rowOf ((n.val : Nat) : Int)).2.size → ((rowOf ((n.val : Nat) : Int)).2.data.toList.getD i.val 0).toNat < 128 := by decide +kernel
  have hsz : ∀ n : Fin 18, (rowOf ((n.val : Nat) : Int)).2.size ≤ 8 := by decide +kernel
  have e : ∀ (s : ByteArray) (h : i < s.size), s[i]'h = s.data.toList.getD i 0 := fun s h => by
    rw [List.getD_eq_getElem?_getD, List.getElem?_eq_getElem (by rw [Array.length_toList]; exact h)]; rfl
  rw [e]
  by_cases hd : 0 ≤ d ∧ d < 18
  · obtain ⟨n, rfl⟩ := Int.eq_ofNat_of_zero_le hd.1
    have hn : n < 18 := by omega
    have := hsz ⟨n, hn⟩
    exact key ⟨n, hn⟩ ⟨i, by simp only at this; omega⟩ h
  · exfalso
    unfold rowOf at h
    rw [if_neg hd] at h
    exact absurd h (by simp [ByteArray.size])
theorem row_drop (s : ByteArray) (pos : Nat) (h : pos < s.size) : s.data.toList.drop pos = s[pos] :: s.data.toList.drop (pos + 1) := by
  rw [List.drop_eq_getElem_cons (by rw [Array.length_toList]; exact h)]
  rfl
theorem row_sizes (d : Int) : (rowOf d).2.size ≤ 8 ∧ (rowOf d).1.size ≤ 20 := by
  have hsz : ∀ n : Fin 18, (rowOf ((n.val : Nat) : Int)).2.size ≤ 8 ∧ (rowOf ((n.val : Nat) : Int)).1.size ≤ 20 := by decide +kernel
  by_cases hd : 0 ≤ d ∧ d < 18
  · obtain ⟨n, rfl⟩ := Int.eq_ofNat_of_zero_le hd.1
    exact hsz ⟨n, by omega⟩
  · unfold rowOf; rw [if_neg hd]; decide
theorem row_lets (d : Int) : ∀ c ∈ (rowOf d).2.data.toList, c ∈ lets := by
  have hsz : ∀ n : Fin 18, ∀ c ∈ (rowOf ((n.val : Nat) : Int)).2.data.toList, c ∈ lets := by decide +kernel
  by_cases hd : 0 ≤ d ∧ d < 18
  · obtain ⟨n, rfl⟩ := Int.eq_ofNat_of_zero_le hd.1
    exact hsz ⟨n, by omega⟩
  · unfold rowOf; rw [if_neg hd]; intro c hc; cases hc
end Go.Proofs.YtpdinahdcedmkaaDoor.Ext
