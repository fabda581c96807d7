/- script.picked: marks as a text of '+' and '-'. -/
import Derived.Test.YtpdinahdcedmkaaDoorSRows
import Derived.Lib.Builder
import Derived.Shelf.Strings.Builder1
namespace Go.Proofs.YtpdinahdcedmkaaDoor.Ext
set_option linter.unusedVariables false
open Go.RowKit Go.Proofs.YtpdinahdcedmkaaDoorW.PrintWords Go.Proofs.YtpdinahdcedmkaaDoorW.PrintLast Go.Proofs.YtpdinahdcedmkaaDoorW.PrintMore

theorem sizeBuilder : (Tryd.prog.info? 129).map (·.size) = some 2 := by kernel_rfl
theorem liesBuilder : liesAt Tryd.prog Tryd.prog.depth 129 (2 / Tryd.prog.cellsOf 129) 0 129 1 = true := by kernel_rfl
set_option maxHeartbeats 1000000 in
set_option maxRecDepth 100000 in
theorem copy_used (b : Nat) (w : World) (h0 : w.cell? ⟨b, 0, none⟩ = some (.pointer (some ⟨b, 0, none⟩))) :
    Calls Tryd.prog 93 #[.pointer (some ⟨b, 0, none⟩)] w fun e w' => e = .returned (.tuple #[]) ∧ w' = w := by
  obtain ⟨j, hj, _⟩ := Option.map_eq_some_iff.1 sizeBuilder
  go_enter Tryd.func93, Tryd.ntmps93
  go_wp2
  rw [Lib.run_neq_ptr_same w _ Tryd.underlying127 hj]
  go_wp2
  go_end0
  exact ⟨rfl, rfl⟩
set_option maxHeartbeats 1000000 in
set_option maxRecDepth 100000 in
theorem copy_fresh (b : Nat) (w : World) (h0 : w.cell? ⟨b, 0, none⟩ = some (.pointer none)) (hsh : w.shape? b = some (129, 2)) (hfz : w.frozen? ⟨b, 0, none⟩ = false) :
    Calls Tryd.prog 93 #[.pointer (some ⟨b, 0, none⟩)] w fun e w' => e = .returned (.tuple #[]) ∧ w' = w.setCell ⟨b, 0, none⟩ (.pointer (some ⟨b, 0, none⟩)) := by
  obtain ⟨j, hj, hjs⟩ := Option.map_eq_some_iff.1 sizeBuilder
  go_enter Tryd.func93, Tryd.ntmps93
  go_wp2
  rw [Lib.run_to_unsafe w ⟨b, 0, none⟩ Tryd.underlying127 Tryd.underlying157 hj (by rw [hjs]; decide) hsh (Nat.zero_lt_succ 1)]
  simp only [Result.andThen]
  rw [Oper.upon_value]
  go_wp2
  rw [run_callFunc_extern Tryd.func99 (by kernel_rfl) (by kernel_rfl) (by kernel_rfl) (e := Extern.AbiNoEscape.same) (by kernel_rfl)]
  rw [Lib.run_noEscape]
  simp only [Result.andThen]
  rw [Oper.upon_value]
  go_wp2
  rw [Lib.run_from_unsafe w ⟨b, 0, none⟩ Tryd.underlying157 Tryd.underlying127 hj hsh liesBuilder]
  simp only [Result.andThen]
  rw [Oper.upon_value]
  go_wp2
  go_end0
  exact ⟨rfl, rfl⟩
theorem c_copyCheck (B b : Nat) (bs : List Value) (w : World) (h : Lib.IsBuilder 129 5 B b bs w) :
    Calls Tryd.prog 93 #[.pointer (some ⟨b, 0, none⟩)] w fun e w' => e = .returned (.tuple #[]) ∧ (Lib.BuilderAt 129 5 B b (.pointer (some ⟨b, 0, none⟩)) bs w' ∧ Below B w w') := by
  rcases h with h | h
  · refine (copy_fresh b w h.cell0 h.shape h.frozen0).mono ?_
    rintro e w' ⟨rfl, rfl⟩
    exact ⟨rfl, h.used _, (Below.refl B w).setCell (p := ⟨b, 0, none⟩) h.1 _⟩
  · refine (copy_used b w h.cell0).mono ?_
    rintro e w' ⟨rfl, rfl⟩
    exact ⟨rfl, h, Below.refl B _⟩
set_option maxHeartbeats 2000000 in
set_option maxRecDepth 100000 in
theorem c_WriteByte (B b : Nat) (bs : List Value) (c : Int) (w : World) (h : Lib.IsBuilder 129 5 B b bs w) (hlen : bs.length + 1 ≤ 140737488355328) (hBw : B ≤ w.heap.size) :
    Calls Tryd.prog 73 #[.pointer (some ⟨b, 0, none⟩), .int .u8 c] w fun e w' => e = .returned .nilIface ∧ (Lib.BuilderAt 129 5 B b (.pointer (some ⟨b, 0, none⟩)) (bs ++ [.int .u8 c]) w' ∧ Below B w w') := by
  obtain ⟨i0, hi, hz0, hz1, hz2⟩ := info_parts info_u8
  go_enter Tryd.func73, Tryd.ntmps73
  go_wp2_with (go_at_call 93; refine (c_copyCheck B b bs _ h).mono ?_)
  rintro e w1 ⟨rfl, h1, hb1⟩
  obtain ⟨hB, v, hbk, hown, hne⟩ := h1
  have c0 : w1.cell? ⟨b, 0, none⟩ = some (.pointer (some ⟨b, 0, none⟩)) := by rw [Lib.cell_of_heap hbk]; rfl
  have c1 : w1.cell? ⟨b, 1, none⟩ = some v := by rw [Lib.cell_of_heap hbk]; rfl
  go_wp2_with (at_builtin; refine wpList_append_own _ rfl _ _ 39 rfl B 5 i0 (.int .u8 0) 1 1 Tryd.underlying39 hi hz0 hz1 hz2 rfl (by decide) _ _ _ rfl (hown.alloc _) ⟨w1.heap.size, 0, none⟩ 1 1 [.int .u8 c] rfl rfl ?c1 ?c2 ?c3 ?c4 ?c5 ?_)
  case c1 =>
    intro j u hj
    match j, hj with
    | 0, hj => simp at hj; subst hj; simp [Addr.add]
  case c2 => intro u hu; simp at hu; subst hu; rfl
  case c3 => unfold maxLen; omega
  case c4 => omega
  case c5 => have := hb1.size; simp; omega
  intro v' w2 hown' hgrow _
  have hlt : b < w1.heap.size := by
    rcases Nat.lt_or_ge b w1.heap.size with h' | h'
    · exact h'
    · simp [Array.getElem?_eq_none h'] at hbk
  have hb2 : w2.heap[b]? = some (.cells #[.pointer (some ⟨b, 0, none⟩), v] 129 (0, 0)) := by
    rw [hgrow.block b (by simp; omega) (fun e => hne e.symm), Lib.alloc_old w1 _ b hlt]
    exact hbk
  have d0 : w2.cell? ⟨b, 0, none⟩ = some (.pointer (some ⟨b, 0, none⟩)) := by rw [Lib.cell_of_heap hb2]; rfl
  have d1 : w2.cell? ⟨b, 1, none⟩ = some v := by rw [Lib.cell_of_heap hb2]; rfl
  have f1 : w2.frozen? ⟨b, 1, none⟩ = false := Lib.frozen_of_heap hb2 1
  obtain ⟨g, cap, rfl⟩ : ∃ g cap, v' = .slice (some ⟨g, 0, none⟩) (bs.length + 1) cap := by
    rcases hown'.2 with ⟨_, h0⟩ | ⟨g, cap, cur, hv, _⟩
    · omega
    · exact ⟨g, cap, hv⟩
  go_wp2
  go_ret
  refine ⟨rfl, ?_, ?_⟩
  · exact Lib.BuilderAt.put (T := 129) (e := 5) hB hb2 (bs' := bs ++ [.int .u8 c]) (by simpa using hown') (by decide)
  · exact ((hb1.alloc (by have := hb1.size; omega) _).grown hgrow (by have := hb1.size; simp; omega) (fun k hk => (hown.lt k hk).1)).setCell (p := ⟨b, 1, none⟩) hB _

/-- marks in bytes -/
def markB (b : Bool) : UInt8 := if b = true then 43 else 45
def pickL (l : List Bool) : List UInt8 := if l.length = 0 then [46] else l.map markB
def pickS (l : List Bool) : ByteArray := ⟨(pickL l).toArray⟩
theorem takeb_snoc (l : List Bool) (i : Nat) (hi : i < l.length) : l.take (i + 1) = l.take i ++ [l.getD i false] := by
  rw [List.take_add_one, List.getD_eq_getElem?_getD, List.getElem?_eq_getElem hi]
  rfl
set_option maxHeartbeats 2000000 in
set_option maxRecDepth 100000 in
theorem c_picked (A : Option Addr) (c : Nat) (l : List Bool) (w : World) (hA : Kd.C Kd.bool w A l.length l) (hc : l.length ≤ c) (hl : l.length ≤ 1048576) :
    Calls Tryd.prog 56 #[.slice A l.length c] w fun e w' => e = .returned (.string (pickS l)) ∧ Below w.heap.size w w' := by
  have HA := Aside0.mk hA
  clear hA
  by_cases h0 : l.length = 0
  · rw [show pickS l = ⟨#[46]⟩ by unfold pickS pickL; rw [if_pos h0]]
    generalize l.length = n at *
    subst h0
    go_enter Tryd.func56, Tryd.ntmps56
    go_wp2
    go_ret
    exact ⟨rfl, Below.refl _ _⟩
  · have t0 : ((l.length : Int) == 0) = false := beq_eq_false_iff_ne.2 (by omega)
    have HP := Aside0.mk (show pickL l = l.map markB by unfold pickL; rw [if_neg h0])
    have cw := Lib.hid c_WriteByte
    clear h0
    go_enter Tryd.func56, Tryd.ntmps56
    go_wp2
    go_loopw [11] (fun v11 wr => ∃ i : Nat, i ≤ l.length ∧ v11 = .int .i64 (i : Int) ∧ Aside0 (Lib.IsBuilder 129 5 w.heap.size w.heap.size (Lib.byteCells ((l.take i).map markB)) wr) ∧ Aside0 (Below w.heap.size w wr)) (fun v11 _ => l.length - (intOf v11).toNat)
    case atStart =>
      refine ⟨0, by omega, rfl, ⟨.inl ⟨Nat.le_refl _, .slice none 0 0, heap_alloc_new w _, World.ownsRow_nil _ _ _ _, by simp [Value.ownBlock]⟩⟩, ⟨(Below.refl _ _).alloc (Nat.le_refl _) _⟩⟩
    case round =>
      obtain ⟨i, hi, rfl, hI, hW⟩ := hrel
      by_cases hlt : i < l.length
      · have hti : (i : Int) < (l.length : Int) := by omega
        obtain ⟨ad1, ea1, hx1⟩ := Kd.at_bool (Kd.C_below HA.out hW.out) (i : Int) (by omega) hti
        subst ea1
        rw [Int.toNat_natCast] at hx1
        have hn1 : rdOf false l (i : Int) = l.getD i false := rfl
        rw [hn1] at hx1
        have hlen : (Lib.byteCells ((l.take i).map markB)).length + 1 ≤ 140737488355328 := by simp [Lib.byteCells]; omega
        have HS := Aside0.mk (show ∀ b, l.getD i false = b → Lib.byteCells ((l.take (i + 1)).map markB) = Lib.byteCells ((l.take i).map markB) ++ [.int .u8 (((markB b).toNat : Nat) : Int)] from fun b hb => by
          rw [takeb_snoc l i hlt, hb]; simp [Lib.byteCells])
        clear hn1
        cases hb : l.getD i false with
        | true =>
          rw [hb] at hx1
          have HS1 := Aside0.mk (HS.out true hb)
          clear HS hb
          go_wp2_with (first
            | (go_at_call 73
               refine (cw.out w.heap.size w.heap.size _ 43 wr hI.out hlen hW.out.size).mono ?_
               rintro e v ⟨rfl, hbb, hb⟩
               have HI2 := Aside0.mk hbb
               have HB2 := Aside0.mk (hW.out.trans hb)
               clear hbb hb)
            | fail)
          go_roundw
          case rel => exact ⟨i + 1, by omega, by go_num, ⟨by rw [HS1.out]; exact .inr HI2.out⟩, HB2⟩
          case measure => simp [intOf]; omega
        | false =>
          rw [hb] at hx1
          have HS1 := Aside0.mk (HS.out false hb)
          clear HS hb
          go_wp2_with (first
            | (go_at_call 73
               refine (cw.out w.heap.size w.heap.size _ 45 wr hI.out hlen hW.out.size).mono ?_
               rintro e v ⟨rfl, hbb, hb⟩
               have HI2 := Aside0.mk hbb
               have HB2 := Aside0.mk (hW.out.trans hb)
               clear hbb hb)
            | fail)
          go_roundw
          case rel => exact ⟨i + 1, by omega, by go_num, ⟨by rw [HS1.out]; exact .inr HI2.out⟩, HB2⟩
          case measure => simp [intOf]; omega
      · obtain rfl : i = l.length := by omega
        have hcs := Tryd.Builder_String_any w.heap.size w.heap.size ((l.take l.length).map markB) wr hI.out hW.out.size
        rw [List.take_of_length_le (Nat.le_refl _), ← HP.out] at hcs
        have cs := Lib.hid hcs
        clear hcs hI
        go_wp2_with (first
          | (go_at_call 74
             refine cs.out.mono ?_
             rintro e v ⟨rfl, hb⟩)
          | fail)
        go_ret
        exact ⟨rfl, hW.out.trans hb⟩
end Go.Proofs.YtpdinahdcedmkaaDoor.Ext
