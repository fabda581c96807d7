import Derived.Test.YtpdinahdcedmkaaGreatDoorProg
import Derived.Below
import Derived.Deep.Draws
import Derived.Deep.AppendLies
import Derived.Maps.AppendAt
import Derived.OwnWalk
import Derived.Laws.BytesArg
import Derived.Laws.MakeOwn
import Derived.Laws.OwnMore
import Derived.Deep.OwnRows
import Derived.Tactics
import Derived.Lib.ConvBytes
import Derived.Laws.Slices
import Derived.WalkKit
import Derived.KernelRfl
import Derived.RowKit3
import Derived.Deep.LoopGhost
import Derived.Deep.QuietTactic
import Derived.BigQuiet
import Derived.WideLaws
import Derived.Deep.DeepCutAuto
import Derived.Deep.CutBlock
import Derived.Deep.RegionHeld3
import Derived.Laws.Rows
import Derived.Lib.AppendStr
import Derived.ArgAppend
import Derived.Laws.IdiomCopy
import Derived.OrdersHeld
import Derived.Laws.BitsLemmas
import Derived.RowKit
import Derived.Test.YtpdinahdcedmkaaGreatDoorWWords
import Derived.Test.YtpdinahdcedmkaaGreatDoorWRest
import Derived.Test.YtpdinahdcedmkaaGreatDoorCards
import Derived.Test.YtpdinahdcedmkaaGreatDoorTie
import Derived.Test.YtpdinahdcedmkaaGreatDoorShelf
import Derived.ProofKit
import Derived.OpenShut
import Derived.ShutString
import Derived.ChangeOld
import Derived.ChangeSlices
import Derived.SizedLaws
import Derived.Deep.Grids
import Derived.Deep.DeepHandedRow
import Derived.Lib.LaidTab
import Derived.Lib.LaidU8
import Derived.Lib.OthersKept
import Derived.Lib.RuneCount
import Derived.Lib.Hide
import Derived.Lib.TrimUEq
import Derived.StillTailTactics
import Derived.WalkSmall
import Derived.Shelf.Unicode.DecodeLastEight
import Derived.Lib.MapLaws
import Derived.Laws.Cover4
set_option maxHeartbeats 4000000
set_option maxRecDepth 100000
/- What every text of this seat's proofs imports: the program, the walk's library, the words. -/
namespace Go.Proofs.YtpdinahdcedmkaaGreatDoorW.PrintWords
open Go.RowKit
set_option linter.unusedVariables false
/-- make([]T, 0, n): an empty row of the call's own. -/
theorem Kd.R_make0 {α : Type} {P : Program} {ops : Array Oper} {rest : List Oper} {o : Oper} {a : Act} {Q : Exit -> Act -> World -> Prop} (d : Kd α) {w0 W : World} (base e : Nat) (hgd : o.guard = none) {N : Tmp} (hd : o.dst = some N) (t : TypeId) (x y : Operand) (ho : o.op = .makeSlice t x y) (n : Int) (hx : a.eval x = .int .i64 0) (hy : a.eval y = .int .i64 n)
 (ht : P.underlying t = some (.slice e)) (z : Value) (bytes : Nat) (hinfo : (P.info? e).map (fun i => (i.zero, i.size, i.bytes)) = some (some z, d.sz, bytes)) (hz : z.cells.size = d.sz) (hs0 : 0 < d.sz) (hb0 : 0 < bytes)
 {ok : Nat -> Prop} (hok : ∀ k, ok k) (h0 : 0 <= n) (hl : n.toNat * bytes <= 281474976710656) (HB : Below base w0 W) (hbase : base <= W.heap.size)
 (h : ∀ v1 w1, d.R e w1 base ok v1 [] -> Below base w0 w1 -> W.grownBy w1 none -> (∃ b, v1.ownBlock = some b /\ W.heap.size <= b) -> wpList P ops Q rest (a.put o.dst v1) w1) : wpList P ops Q (o :: rest) a W := by
 obtain ⟨m, rfl⟩ := Int.eq_ofNat_of_zero_le h0
 simp only [Int.toNat_natCast] at hl
 obtain ⟨i0, hi, hzz⟩ := Option.map_eq_some_iff.1 hinfo
 simp only [Prod.mk.injEq] at hzz
 obtain ⟨hz0, hz1, hz2⟩ := hzz
 have hm : m <= 281474976710656 := Nat.le_trans (Nat.le_mul_of_pos_right _ hb0) hl
 obtain ⟨w', hr, hown, hg⟩ := run_make_own (P := P) W base t e i0 z d.sz ht hi hz0 hz1 .i64 .i64 m (by rw [hz2, Nat.mul_comm]; exact hl) (by simp only [maxLen]; omega) hbase
 refine wpList_plain hgd fun K hK => ?_
 unfold Oper.wp
 have hrun : (execOp a.eval o).run P W = .ok (.value (.slice (some ⟨W.heap.size, 0, none⟩) 0 m)) w' := by simp [execOp, ho, hx, hy, hr]
 rw [hrun]
 exact hK _ _ (h _ _ ⟨fun k _ => hok k, [], by simpa using hown, Reps.none _ _⟩ (HB.grown hg hbase (fun k hk => by cases hk)) hg ⟨_, rfl, Nat.le_refl _⟩)
end Go.Proofs.YtpdinahdcedmkaaGreatDoorW.PrintWords
namespace Go.Proofs.YtpdinahdcedmkaaGreatDoor.Kit
open Go.ChangeShapes Go.WideShapes Go.ChangeAt Go.RowKit Go.Proofs.YtpdinahdcedmkaaGreatDoorW.PrintWords
set_option linter.unusedVariables false
theorem own : ownKnob Tryz.prog.godebug = none := by kernel_rfl
theorem laidOut : laidOutB Tryz.prog = true := by kernel_rfl
/-- the rows' list -/
def laid : List (String × DataW Unit) := [("unicode/utf8.acceptRanges", Rows.laid_unicode_utf8_acceptRanges), ("unicode/utf8.first", Rows.laid_unicode_utf8_first)]
theorem laid_eq : laid = [("unicode/utf8.acceptRanges", Lib.acceptData), ("unicode/utf8.first", Lib.firstData)] := by kernel_rfl
theorem tabs {W : World} (h : laidMetH Tryz.prog laid W) : Lib.Utf8Tabs 1 2 W := by
 have h2 : laidMet Tryz.prog laid W := h
 rw [laid_eq] at h2
 exact utf8Tabs_of_reads (ρ := Tryz.lays260_ren) Tryz.lays260 ⟨by kernel_rfl, by kernel_rfl, by kernel_rfl, by kernel_rfl, by kernel_rfl, by kernel_rfl, by kernel_rfl⟩ (Lib.laidMet.reads h2 (.tail _ (.head _))) (Lib.laidMet.reads h2 (.head _))
/-- a block's cells, others -/
def withCells (cs : Array Value) : Obj -> Obj
 | .cells _ t frozen => .cells cs t frozen
 | o => o
/-- A world for the witness: the settled one, the tables holding what their initialisers lay. -/
noncomputable def laidWorld (os : Os) (args : Array Value) : World :=
 { World.holding Tryz.prog os ⟨#[], args, []⟩ with heap := ((World.holding Tryz.prog os ⟨#[], args, []⟩).heap.modify 1 (withCells (Lib.firstTab.map fun z => Value.int .u8 z).toArray)).modify 2 (withCells ((List.range 16).flatMap fun i => [Value.int .u8 (Lib.accLo i), Value.int .u8 (Lib.accHi i)]).toArray) }
/-! ### the bulk -/
theorem one_le {H : Type} (d : DataW H) : 1 <= Rows.uptoBulk d := by
 cases d with
 | lit l => cases l <;> simp [Rows.uptoBulk]
 | _ => simp [Rows.uptoBulk]
theorem length_le {H : Type} (l : List (DataW H)) : l.length <= Rows.uptoBulkAll l := by
 induction l with
 | nil => simp [Rows.uptoBulkAll]
 | cons x r ih => have := one_le x; simp only [Rows.uptoBulkAll, List.length_cons]; omega
end Go.Proofs.YtpdinahdcedmkaaGreatDoor.Kit
namespace Go.Proofs.YtpdinahdcedmkaaGreatDoor.Ext
open Go.RowKit Go.Proofs.YtpdinahdcedmkaaGreatDoorW.PrintWords Go.Proofs.YtpdinahdcedmkaaGreatDoorW.PrintLast Go.Proofs.YtpdinahdcedmkaaGreatDoorW.PrintMore
/-- the byte at place i of twenty, when n is written to end at place 19 -/
def dig (n : Nat) (i : Nat) : Int := 48 + ((n / 10 ^ (19 - i) % 10 : Nat) : Int)
/-- the last k digits -/
def digs (n k : Nat) : List Int := (List.range k).map fun j => dig n (20 - k + j)
structure Sel (n : Nat) (k : Nat) (cs : Array Value) : Prop where
 size : cs.size = 20
 at_ : ∀ i, 20 - k <= i -> i < 20 -> cs[i]? = some (.int .u8 (dig n i))
theorem Sel.step {n k : Nat} {cs : Array Value} (h : Sel n k cs) (hk : k < 20) (v : Int) (hv : v = dig n (19 - k)) : Sel n (k + 1) (cs.setIfInBounds (19 - k) (.int .u8 v)) := by
 subst hv
 refine ⟨by simp [h.size], fun i h1 h2 => ?_⟩
 rw [Array.getElem?_setIfInBounds]
 by_cases e : 19 - k = i
 · rw [if_pos e, if_pos (by rw [h.size]; omega), e]
 · rw [if_neg e]; exact h.at_ i (by omega) h2
theorem blk_set {w : World} {g : Nat} {cs : Array Value} {t : TypeId} (h : w.heap[g]? = some (.cells cs t (0, 0))) (i : Nat) (u : Value) :
 (w.setCell ⟨g, i, none⟩ u).heap[g]? = some (.cells (cs.setIfInBounds i u) t (0, 0)) := by
 simp [World.setCell, Array.getElem?_modify, h]
theorem blk_cell {w : World} {g : Nat} {cs : Array Value} {t : TypeId} (h : w.heap[g]? = some (.cells cs t (0, 0))) (i : Nat) : w.cell? ⟨g, i, none⟩ = cs[i]? := cell_of_row w g i cs t (0, 0) h
theorem cls4 {w : World} {g : Nat} {t : TypeId} {cs : Array Value} (h : w.heap[g]? = some (.cells cs t (0, 0))) : w.cell? ⟨g, 0, none⟩ = cs[0]? ∧ w.cell? ⟨g, 1, none⟩ = cs[1]? ∧ w.cell? ⟨g, 2, none⟩ = cs[2]? ∧ w.cell? ⟨g, 3, none⟩ = cs[3]? := ⟨blk_cell h 0, blk_cell h 1, blk_cell h 2, blk_cell h 3⟩
theorem cls13 {w : World} {g : Nat} {t : TypeId} {cs : Array Value} (h : w.heap[g]? = some (.cells cs t (0, 0))) : w.cell? ⟨g, 0, none⟩ = cs[0]? ∧ w.cell? ⟨g, 1, none⟩ = cs[1]? ∧ w.cell? ⟨g, 2, none⟩ = cs[2]? ∧ w.cell? ⟨g, 3, none⟩ = cs[3]? ∧ w.cell? ⟨g, 4, none⟩ = cs[4]? ∧ w.cell? ⟨g, 5, none⟩ = cs[5]? ∧ w.cell? ⟨g, 6, none⟩ = cs[6]? ∧ w.cell? ⟨g, 7, none⟩ = cs[7]? ∧ w.cell? ⟨g, 8, none⟩ = cs[8]? ∧ w.cell? ⟨g, 9, none⟩ = cs[9]? ∧ w.cell? ⟨g, 10, none⟩ = cs[10]? ∧ w.cell? ⟨g, 11, none⟩ = cs[11]? ∧ w.cell? ⟨g, 12, none⟩ = cs[12]? := ⟨blk_cell h 0, blk_cell h 1, blk_cell h 2, blk_cell h 3, blk_cell h 4, blk_cell h 5, blk_cell h 6, blk_cell h 7, blk_cell h 8, blk_cell h 9, blk_cell h 10, blk_cell h 11, blk_cell h 12⟩
theorem blk_free {w : World} {g : Nat} {cs : Array Value} {t : TypeId} (h : w.heap[g]? = some (.cells cs t (0, 0))) (i : Nat) : w.frozen? ⟨g, i, none⟩ = false := by
 simp [World.frozen?, h]
theorem alen : Tryz.prog.arrayLen 170 = 20 := by kernel_rfl
theorem aelem : Tryz.prog.elem 170 = 5 := by kernel_rfl
theorem asize (w : World) : (sizeOf 5).run Tryz.prog w = .ok 1 w := by kernel_rfl
theorem run_cut (g j : Nat) (hj : j <= 19) (W : World) :
 (Instr.sliceAt 170 (.pointer (some ⟨g, 0, none⟩)) (some (.int .i64 (j : Int))) none none).run Tryz.prog W = .ok (.slice (some ⟨g, j, none⟩) (20 - j) (20 - j)) W := by
 rw [run_sliceAt_array_l W 170 ⟨g, 0, none⟩ (by rw [alen, aelem]; kernel_rfl) .i64 (j : Int) (by omega) (by rw [alen]; omega), aelem, asize, alen]
 simp only [Result.andThen, slicedAt, Int.toNat_natCast]
 rw [if_neg (by omega)]
 simp only [Nat.mul_one]
 unfold Addr.add
 by_cases h : j = 0
 · subst h; rfl
 · rw [if_neg h]; simp
theorem digs_length (n k : Nat) : (digs n k).length = k := by simp [digs]
theorem digs_get {n k j : Nat} (h : j < k) : (digs n k).getD j 0 = dig n (20 - k + j) := by
 simp [digs, List.getD_eq_getElem?_getD, List.getElem?_map, List.getElem?_range h]
theorem reads_of {W : World} {g j n k : Nat} {cs : Array Value} (h : W.heap[g]? = some (.cells cs 170 (0, 0))) (hs : Sel n k cs) (hk : k <= 20) (hj : j = 20 - k) :
 ReadsInt W .u8 (some ⟨g, j, none⟩) (20 - j) (digs n k) := by
 subst hj
 refine ⟨by rw [digs_length]; omega, by omega, fun _ => ⟨_, rfl, fun i hi => ?_⟩⟩
 have e : (⟨g, 20 - k, none⟩ : Addr).add i = ⟨g, 20 - k + i, none⟩ := by unfold Addr.add; split <;> simp_all
 rw [e, blk_cell h, digs_get (by omega), hs.at_ _ (by omega) (by omega)]
theorem dec_walk (n : Nat) (w : World) (hn : n < 2 ^ 64) :
 Calls Tryz.prog 108 #[.int .u64 n] w fun e w' => (∃ k, 0 < k /\ k <= 20 /\ n / 10 ^ k = 0 /\ (1 < k -> 0 < n / 10 ^ (k - 1)) /\ e = .returned (.string (strOfNums (digs n k)))) /\ Below w.heap.size w w' := by
 go_enter Tryz.func108, Tryz.ntmps108
 go_wp2
 go_loopw [0, 4] (fun v0 v4 wr => ∃ (k : Nat) (m : Nat) (cs : Array Value), k <= 20 /\ v0 = .int .u64 m /\ v4 = .int .i64 ((20 - k : Nat) : Int) /\ wr.heap[w.heap.size]? = some (.cells cs 170 (0, 0)) /\ Zz (Sel n k cs) /\ Zz (m = n / 10 ^ k /\ (0 < k -> 0 < m)) /\ Below w.heap.size w wr) (fun _ v4 _ => (intOf v4).toNat)
 case atStart => exact ⟨0, n, _, by omega, rfl, rfl, heap_alloc_new w _, ⟨⟨rfl, fun i h1 h2 => by omega⟩⟩, ⟨by simp, by omega⟩, (Below.refl _ _).alloc (Nat.le_refl _) _⟩
 case round =>
  obtain ⟨k, m, cs, hk, rfl, rfl, hblk, hsel, hm, hB⟩ := hrel
  have hm64 : m < 18446744073709551616 := by
   have := hm.out.1
   have := Nat.div_le_self n (10 ^ k)
   omega
  have hk2 : k < 20 := by
   have h1 := hm.out
   rcases Nat.lt_or_ge k 20 with h | h
   · exact h
   · obtain rfl : k = 20 := by omega
     have := h1.2 (by omega)
     rw [h1.1] at this
     rw [Nat.div_eq_of_lt (by omega)] at this
     omega
  obtain ⟨j, hj, hj9⟩ : ∃ j, j = 19 - k /\ j <= 19 := ⟨19 - k, rfl, by omega⟩
  rw [show (20 - k : Nat) = j + 1 by omega]
  have hcell : wr.cell? ⟨w.heap.size, j, none⟩ = cs[j]? := blk_cell hblk j
  have hfree : wr.frozen? ⟨w.heap.size, j, none⟩ = false := blk_free hblk j
  obtain ⟨v, hv⟩ : ∃ v, cs[j]? = some v := ⟨_, Array.getElem?_eq_getElem (by rw [hsel.out.size]; omega)⟩
  rw [hv] at hcell
  have hb2 := blk_set hblk j (.int .u8 (48 + (m : Int) % 10))
  have hs2 : Sel n (k + 1) (cs.setIfInBounds j (.int .u8 (48 + (m : Int) % 10))) := by
   rw [hj]
   refine hsel.out.step hk2 _ ?_
   unfold dig
   rw [show 19 - (19 - k) = k by omega, <- hm.out.1]
   omega
  have hB2 : Below w.heap.size w (wr.setCell ⟨w.heap.size, j, none⟩ (.int .u8 (48 + (m : Int) % 10))) := hB.setCell (Nat.le_refl _) _
  have hd : n / 10 ^ (k + 1) = m / 10 := by rw [hm.out.1, Nat.pow_succ, Nat.div_div_eq_div_mul]
  by_cases h0 : m / 10 = 0
  · have t0 : (((m : Int) / 10) == 0) = true := beq_iff_eq.2 (by omega)
    have hcut := run_cut w.heap.size j hj9 (wr.setCell ⟨w.heap.size, j, none⟩ (.int .u8 (48 + (m : Int) % 10)))
    have hcv := string_of_reads (P := Tryz.prog) (src := 31) (dst := 9) (e := 5) (c := 20 - j) Tryz.underlying31 Tryz.underlying5 Tryz.underlying9 (reads_of hb2 hs2 (by omega) (by omega : j = 20 - (k + 1)))
    have HF := Zz.mk (show 0 < k + 1 /\ k + 1 <= 20 /\ n / 10 ^ (k + 1) = 0 /\ (1 < k + 1 -> 0 < n / 10 ^ k) from ⟨by omega, by omega, by omega, fun h => by have := hm.out; rw [<- this.1]; exact this.2 (by omega)⟩)
    have HB2 := Zz.mk hB2
    clear hv hblk hj hd hb2 hs2 hB2
    go_wp2
    go_ret
    refine ⟨⟨k + 1, HF.out.1, HF.out.2.1, HF.out.2.2.1, HF.out.2.2.2, rfl⟩, HB2.out⟩
  · have t0 : (((m : Int) / 10) == 0) = false := beq_eq_false_iff_ne.2 (by omega)
    have HR : Zz (k + 1 <= 20 /\ m / 10 = n / 10 ^ (k + 1) /\ 0 < m / 10 /\ j = 20 - (k + 1)) := ⟨by omega, hd.symm, by omega, by omega⟩
    have HB2 := Zz.mk hB2
    have hb2' := Zz.mk hb2
    have hs2' := Zz.mk hs2
    clear hv hblk hj hd hb2 hs2 hB2
    go_wp2
    go_roundw
    case rel => exact ⟨k + 1, m / 10, _, HR.out.1, by go_num, by rw [<- HR.out.2.2.2], hb2'.out, hs2', ⟨HR.out.2.1, fun _ => HR.out.2.2.1⟩, HB2.out⟩
    case measure => simp [intOf]
/-- The digits of a number. -/
def decL : Nat -> List Int
 | n => if h : n < 10 then [48 + (n : Int)] else decL (n / 10) ++ [48 + ((n % 10 : Nat) : Int)]
 termination_by n => n
 decreasing_by omega
theorem decL_lt {n : Nat} (h : n < 10) : decL n = [48 + (n : Int)] := by rw [decL, dif_pos h]
theorem decL_ge {n : Nat} (h : ¬ n < 10) : decL n = decL (n / 10) ++ [48 + ((n % 10 : Nat) : Int)] := by rw [decL, dif_neg h]
theorem digs_snoc (n k : Nat) (hk : k < 20) : digs n (k + 1) = digs (n / 10) k ++ [48 + ((n % 10 : Nat) : Int)] := by
 unfold digs
 rw [List.range_succ, List.map_append]
 congr 1
 · apply List.map_congr_left
   intro j hj
   rw [List.mem_range] at hj
   unfold dig
   rw [show 19 - (20 - (k + 1) + j) = (19 - (20 - k + j)) + 1 by omega, Nat.pow_succ, Nat.mul_comm, Nat.div_div_eq_div_mul]
 · simp only [List.map_cons, List.map_nil, dig]
   rw [show 19 - (20 - (k + 1) + k) = 0 by omega, Nat.pow_zero, Nat.div_one]
theorem digs_dec (k : Nat) : ∀ n, 0 < k -> k <= 20 -> n / 10 ^ k = 0 -> (1 < k -> 0 < n / 10 ^ (k - 1)) -> digs n k = decL n := by
 induction k with
 | zero => intro n h; omega
 | succ k ih =>
   intro n _ hk h0 h1
   rw [digs_snoc n k (by omega)]
   by_cases hz : k = 0
   · subst hz
     have hlt : n < 10 := by
      rw [Nat.pow_one] at h0
      omega
     rw [decL_lt hlt]
     simp [digs, Nat.mod_eq_of_lt hlt]
   · have h2 := h1 (by omega)
     rw [Nat.add_sub_cancel] at h2
     have hge : ¬ n < 10 := by
      intro hlt
      rw [Nat.div_eq_of_lt (Nat.lt_of_lt_of_le hlt (Nat.le_self_pow hz 10))] at h2
      omega
     rw [decL_ge hge, ih (n / 10) (by omega) (by omega) (by rw [Nat.div_div_eq_div_mul, Nat.mul_comm, <- Nat.pow_succ]; exact h0)]
     intro hk1
     rw [Nat.div_div_eq_div_mul, Nat.mul_comm, <- Nat.pow_succ, show (k - 1).succ = k by omega]
     exact h2
def octet_Decimal.f (a0 : Int) : Option ByteArray := if 0 <= a0 then if a0 < 18446744073709551616 then some (strOfNums (decL a0.toNat)) else none else none
theorem octet_Decimal.calls (a0 : Int) (r : ByteArray) (w : World) (h : octet_Decimal.f a0 = some r) :
 Calls Tryz.prog 108 #[.int .u64 a0] w fun e w' => e = .returned (.string r) /\ Below w.heap.size w w' := by
 unfold octet_Decimal.f at h
 by_cases h0 : 0 <= a0
 · rw [if_pos h0] at h
   by_cases h1 : a0 < 18446744073709551616
   · rw [if_pos h1] at h
     obtain rfl := Option.some.inj h
     obtain ⟨n, rfl⟩ := Int.eq_ofNat_of_zero_le h0
     rw [Int.toNat_natCast]
     refine (dec_walk n w (by omega)).mono ?_
     rintro e w' ⟨⟨k, k0, k1, k2, k3, rfl⟩, hb⟩
     exact ⟨by rw [digs_dec k n k0 k1 k2 k3], hb⟩
   · rw [if_neg h1] at h; cases h
 · rw [if_neg h0] at h; cases h
end Go.Proofs.YtpdinahdcedmkaaGreatDoor.Ext
namespace Go.Proofs.YtpdinahdcedmkaaGreatDoor.Ext
set_option linter.unusedVariables false
open Go.RowKit Go.Proofs.YtpdinahdcedmkaaGreatDoorW.PrintWords Go.Proofs.YtpdinahdcedmkaaGreatDoorW.PrintLast Go.Proofs.YtpdinahdcedmkaaGreatDoorW.PrintMore
/-- The runes from a place on: place, rune, width. -/
def rns (s : ByteArray) : Nat -> Nat -> List (Nat × Nat × Nat)
 | 0, _ => []
 | f + 1, pos => if pos < s.size then (pos, (Utf8.decode s pos).1, (Utf8.decode s pos).2) :: rns s f (pos + (Utf8.decode s pos).2) else []
def runesOf (s : ByteArray) : List (Nat × Nat × Nat) := rns s s.size 0
theorem rns_end (s : ByteArray) (f pos : Nat) (h : ¬ pos < s.size) : rns s f pos = [] := by
 cases f with
 | zero => rfl
 | succ f => simp [rns, h]
theorem rns_step (s : ByteArray) (f pos : Nat) (h : pos < s.size) (hf : s.size <= pos + f) : ∃ f', s.size <= (pos + (Utf8.decode s pos).2) + f' /\ rns s f pos = (pos, (Utf8.decode s pos).1, (Utf8.decode s pos).2) :: rns s f' (pos + (Utf8.decode s pos).2) := by
 cases f with
 | zero => omega
 | succ f =>
   have := Lib.decode_width_pos s pos h
   exact ⟨f, by omega, by simp [rns, h]⟩
theorem rns_len (s : ByteArray) (f pos : Nat) : (rns s f pos).length <= s.size - pos := by
 induction f generalizing pos with
 | zero => simp [rns]
 | succ f ih =>
   unfold rns
   by_cases h : pos < s.size
   · have := Lib.decode_width_pos s pos h
     rw [if_pos h, List.length_cons]
     have := ih (pos + (Utf8.decode s pos).2)
     omega
   · rw [if_neg h]; simp
theorem ret_bool {a b : Bool} (h : a = b) : Ending.returned (.bool a) = .returned (.bool b) := by rw [h]
theorem iter_new (w : World) (s : ByteArray) : (w.iter s 0).heap[w.heap.size]? = some (.stringIter s 0) := World.iter_heap w s 0
theorem iter_less {w : World} {k : Nat} {s : ByteArray} {pos d : Nat} (hd : 1 <= d) (hit : w.heap[k]? = some (.stringIter s pos)) (hp : pos < s.size) : s.size - (w.iterAt k s (pos + d)).iterPos k < s.size - w.iterPos k := by
 have h1 := Lib.iterAt_heap w k s pos (pos + d) hit
 unfold World.iterPos
 rw [h1, hit]
 simp only
 omega
theorem below_iter (w : World) (s : ByteArray) : Below w.heap.size w (w.iter s 0) := (Below.refl _ _).alloc (Nat.le_refl _) _
theorem info_u8 : (Tryz.prog.info? 5).map (fun i => (i.zero, i.size, i.bytes)) = some (some (.int .u8 0), 1, 1) := by kernel_rfl
/-- a digit's byte -/
def hexd (n : Int) : Int := if n < 10 then 48 + n else 87 + n
theorem idx_hex (x : Int) (k : IntKind) (h0 : 0 <= x) (h1 : x < 16) : ∀ W, (Instr.index 9 (.string ⟨#[48, 49, 50, 51, 52, 53, 54, 55, 56, 57, 97, 98, 99, 100, 101, 102]⟩) (.int k x)).run Tryz.prog W = .ok (.int .u8 (hexd x)) W := by
 intro W
 rw [run_index_string W 9 _ k x Tryz.underlying9]
 obtain rfl | rfl | rfl | rfl | rfl | rfl | rfl | rfl | rfl | rfl | rfl | rfl | rfl | rfl | rfl | rfl : x = 0 \/ x = 1 \/ x = 2 \/ x = 3 \/ x = 4 \/ x = 5 \/ x = 6 \/ x = 7 \/ x = 8 \/ x = 9 \/ x = 10 \/ x = 11 \/ x = 12 \/ x = 13 \/ x = 14 \/ x = 15 := by omega
 all_goals rfl
theorem idx_str (s : ByteArray) (pos : Nat) (h : pos < s.size) : ∀ W, (Instr.index 9 (.string s) (.int .i64 (pos : Int))).run Tryz.prog W = .ok (.int .u8 (bt s pos)) W := by
 intro W
 rw [run_index_string W 9 s .i64 (pos : Int) Tryz.underlying9]
 simp [h, bt]
theorem bits15 (b : Int) (h0 : 0 <= b) (h1 : b <= 255) : Go.bits .and .u8 b 15 = b % 16 := by
 obtain ⟨n, rfl⟩ := Int.eq_ofNat_of_zero_le h0
 have : ∀ n : Fin 256, Go.bits .and .u8 ((n.val : Nat) : Int) 15 = ((n.val : Nat) : Int) % 16 := by decide +kernel
 exact this ⟨n, by omega⟩
/-- one rune's piece -/
def quoteP (s : ByteArray) (x : Nat × Nat × Nat) : List Int :=
 if x.2.1 = 34 \/ x.2.1 = 92 then [92, (x.2.1 : Int)]
 else if x.2.1 < 32 \/ x.2.1 = 127 \/ (x.2.1 = 65533 /\ x.2.2 = 1) then [92, 120, hexd (bt s x.1 / 16), hexd (bt s x.1 % 16)]
 else bytesOf (s.extract x.1 (x.1 + x.2.2))
def quoteF (s : ByteArray) (l : List (Nat × Nat × Nat)) : List Int := l.flatMap (quoteP s)
def quoteS (s : ByteArray) : ByteArray := strOfNums ([34] ++ quoteF s (runesOf s) ++ [34])
theorem decodeGo_at (s : ByteArray) (pos : Nat) (h : pos < s.size) : Lib.decodeGo (s.extract pos s.size) = Utf8.decode s pos := by
 unfold Lib.decodeGo
 rw [if_neg (by rw [ByteArray.size_extract]; omega), <- Lib.decodeL_drop s pos]
 unfold Lib.decodeL
 have : (s.extract pos s.size) = ⟨(s.data.toList.drop pos).toArray⟩ := by
  have h1 := Lib.extract_to_end s pos
  apply ByteArray.ext
  rw [<- Array.toList_inj, h1]
 rw [this]
theorem width_le (s : ByteArray) (pos : Nat) (h : pos < s.size) : pos + (Utf8.decode s pos).2 <= s.size /\ (Utf8.decode s pos).2 <= 4 := by
 have h1 := Lib.decodeGo_le_size (s.extract pos s.size)
 have h2 := Lib.decodeGo_le4 (s.extract pos s.size)
 rw [decodeGo_at s pos h] at h1 h2
 rw [ByteArray.size_extract] at h1
 omega
theorem quoteP_len (s : ByteArray) (pos : Nat) (h : pos < s.size) : (quoteP s (pos, (Utf8.decode s pos).1, (Utf8.decode s pos).2)).length <= 4 * (Utf8.decode s pos).2 := by
 have hw := Lib.decode_width_pos s pos h
 have hl := width_le s pos h
 unfold quoteP
 split
 · simp; omega
 · split
   · simp; omega
   · simp only [bytesOf, List.length_map, Array.length_toList]
     have : (s.extract pos (pos + (Utf8.decode s pos).2)).data.size = (Utf8.decode s pos).2 := by
      show (s.extract pos (pos + (Utf8.decode s pos).2)).size = _
      rw [ByteArray.size_extract]; omega
     omega
theorem iter_grown {w w' : World} {v : Value} {k : Nat} {s : ByteArray} {pos base n : Nat} {e : TypeId} {size : Nat} {xs : List Value} (hown : w.ownsRow base e size v n xs) (hg : w.grownBy w' v.ownBlock) (hit : w.heap[k]? = some (.stringIter s pos)) : w'.heap[k]? = some (.stringIter s pos) := by
 have hlt : k < w.heap.size := (Array.getElem?_eq_some_iff.1 hit).1
 refine (hg.block k hlt ?_).trans hit
 intro hk
 obtain ⟨cells, hc⟩ := own_typed hown k hk.symm
 rw [hit] at hc
 cases hc
theorem row_below {w w' : World} {base : Nat} {e : TypeId} {size : Nat} {v : Value} {n : Nat} {xs : List Value} (h : w.ownsRow base e size v n xs) (hb : Below w.heap.size w w') : w'.ownsRow base e size v n xs :=
 h.kept (grown_of_below hb none) (Classical.em _)
theorem row_iterAt {w : World} {base : Nat} {e : TypeId} {size : Nat} {v : Value} {n : Nat} {xs : List Value} (h : w.ownsRow base e size v n xs) {k : Nat} {s : ByteArray} {pos : Nat} (hk : w.heap[k]? = some (.stringIter s pos)) (p : Nat) : (w.iterAt k s p).ownsRow base e size v n xs := by
 have hg : w.grownBy (w.iterAt k s p) (some k) := ⟨rfl, rfl, rfl, by rw [Lib.iterAt_size]; exact Nat.le_refl _, fun i hi hne => Lib.iterAt_other w k i s p (fun e => hne (by rw [e]))⟩
 refine h.kept hg (.inr ?_)
 intro hv
 obtain ⟨cells, hc⟩ := own_typed h k hv
 rw [hk] at hc
 cases hc
theorem iter_alloc {w : World} {k pos : Nat} {s : ByteArray} (h : w.heap[k]? = some (.stringIter s pos)) (o : Obj) : (w.alloc o).heap[k]? = some (.stringIter s pos) :=
 (Below.heap_alloc w o k (Array.getElem?_eq_some_iff.1 h).1).trans h
theorem nums_append (k : IntKind) (a b : List Int) : nums k (a ++ b) = nums k a ++ nums k b := by simp [nums]
theorem strCells_nums (s : ByteArray) : Lib.strCells s = nums .u8 (bytesOf s) := by
 simp [Lib.strCells, nums, bytesOf]
theorem quote_walk (s : ByteArray) (w : World) (hs : s.size <= 17592186044416) (hT : Lib.Utf8Tabs 1 2 w) :
 Calls Tryz.prog 94 #[.string s] w fun e w' => e = .returned (.string (quoteS s)) /\ Below w.heap.size w w' := by
 obtain ⟨i0, hi, hz0, hz1, hz2⟩ := info_parts info_u8
 have HT := Lib.hid hT
 clear hT
 go_enter Tryz.func94, Tryz.ntmps94
 go_wp2
 go_loopw [3] (fun v wr => ∃ (pos fuel : Nat) (L : List Int), wr.heap[w.heap.size + 1]? = some (.stringIter s pos) /\ Zz (wr.ownsRow w.heap.size 5 1 v L.length (nums .u8 L)) /\ Zz (L ++ quoteF s (rns s fuel pos) = [34] ++ quoteF s (runesOf s) /\ s.size <= pos + fuel /\ pos <= s.size) /\ L.length <= 1 + 4 * pos /\ Zz (Below w.heap.size w wr)) (fun _ wr => s.size - wr.iterPos (w.heap.size + 1))
 case atStart =>
  refine ⟨0, s.size, [34], ?_, ⟨?_⟩, ⟨by simp [runesOf], by omega, by omega⟩, by simp, ⟨((Below.refl _ _).alloc (Nat.le_refl _) _).alloc (by simp) _⟩⟩
  · have := iter_new (w.alloc (.cells #[.int .u8 34] 5)) s
    simpa using this
  · exact (World.ownsRow_lit (base := w.heap.size) (e := 5) (size := 1) w #[.int .u8 34] 1 (Nat.le_refl _) (by simp [maxLen]) (by simp)).alloc _
 case round =>
  obtain ⟨pos, fuel, L, hit, hO, hR, hL, hB⟩ := hrel
  by_cases hp : pos < s.size
  · have hwl := width_le s pos hp
    have hw1 := Lib.decode_width_pos s pos hp
    have hpl := quoteP_len s pos hp
    obtain ⟨f2, hf2, he2⟩ := rns_step s fuel pos hp hR.out.2.1
    have hnx := fun ty => Lib.run_next_any_at (P := Tryz.prog) wr (w.heap.size + 1) s pos ty hit hp
    have Cd := fun W hT => Tryz.utf8_DecodeRuneInString (s.extract pos s.size) W hT
    rw [decodeGo_at s pos hp] at Cd
    have hd3 := decode_le s pos
    have HI0 := Lib.iterAt_heap wr (w.heap.size + 1) s pos (pos + (Utf8.decode s pos).2) hit
    have HB0 := Lib.below_iterAt hB.out (show w.heap.size <= w.heap.size + 1 by omega) s (pos + (Utf8.decode s pos).2)
    have HM0 := iter_less hw1 hit hp
    have HO0 := row_iterAt hO.out hit (pos + (Utf8.decode s pos).2)
    generalize hd : Utf8.decode s pos = d at *
    obtain ⟨r, wd⟩ := d
    simp only at *
    have HD := Lib.hid hd
    have HR2 : Zz (L ++ quoteP s (pos, r, wd) ++ quoteF s (rns s f2 (pos + wd)) = [34] ++ quoteF s (runesOf s) /\ s.size <= (pos + wd) + f2 /\ pos + wd <= s.size) := ⟨by have := hR.out.1; rw [he2] at this; simpa [quoteF, List.append_assoc] using this, hf2, hwl.1⟩
    have HHD := Zz.mk hf2
    have hT1 := Utf8Tabs_below HT.out HB0
    have CdW := Cd _ hT1
    have cd := Lib.hid CdW
    have HBI := Zz.mk HB0
    have HII := Zz.mk HI0
    have HMM := Zz.mk HM0
    have HOO := Zz.mk HO0
    have hpi : (pos : Int) <= s.size := by omega
    have hpi0 : (0 : Int) <= pos := by omega
    clear hd he2 hf2 hR Cd HI0 HB0 HM0 HO0 hT1 CdW hO hB HHD
    go_wp2_with (fail)
    refine cd.out.mono ?_
    rintro e v2 ⟨rfl, hb2⟩
    have HI2 := Zz.mk ((hb2.block (w.heap.size + 1) (Array.getElem?_eq_some_iff.1 HII.out).1).trans HII.out)
    have HO2 := Zz.mk (row_below HOO.out hb2)
    have HB2 := Zz.mk (HBI.out.trans (hb2.mono HBI.out.size))
    have HMM2 : Zz (s.size - (pos + wd) < s.size - wr.iterPos (w.heap.size + 1)) := ⟨by have := HMM.out; rwa [iterPos_of HII.out] at this⟩
    clear HMM HII HOO HBI hb2 cd HD HT hit
    by_cases h34 : r = 34
    · subst h34
      rw [show quoteP s (pos, 34, wd) = [92, 34] by simp [quoteP]] at HR2
      clear hpl
      go_wp2_with (first
      | (at_builtin
         refine wpList_append_own _ rfl _ _ 31 rfl w.heap.size 5 i0 _ 1 1 Tryz.underlying31 hi hz0 hz1 hz2 rfl (by decide) _ _ _ rfl (HO2.out.alloc _) ⟨v2.heap.size, 0, none⟩ 2 2 [.int .u8 92, .int .u8 34] rfl rfl (World.news_of_block (cs := #[.int .u8 92, .int .u8 34]) (t := 5) (fr := (0, 0)) (heap_alloc_new _ _)) (by simp [Value.oneCell']) (by simp only [maxLen]; omega) (by omega) (by have hz9 := HB2.out.size; simp; omega) ?_
         intro v3 w3 hown3 hg3 hx3
         clear hx3
         have HI3 := Zz.mk (iter_grown (HO2.out.alloc _) hg3 (iter_alloc HI2.out _))
         have HB3 := Zz.mk ((HB2.out.alloc HB2.out.size _).grown hg3 (by have hz9 := HB2.out.size; simp; omega) (fun k hk => own_base HO2.out k hk))
         have HO3 := Zz.mk hown3
         clear hown3 hg3))
      go_roundw
      case rel => exact ⟨pos + wd, f2, L ++ [92, 34], HI3.out, ⟨by simpa [nums] using HO3.out⟩, HR2, by simp; omega, HB3⟩
      case measure => rw [iterPos_of HI3.out]; exact HMM2.out
    · by_cases h92 : r = 92
      · subst h92
        rw [show quoteP s (pos, 92, wd) = [92, 92] by simp [quoteP]] at HR2
        clear hpl h34
        go_wp2_with (first
      | (at_builtin
         refine wpList_append_own _ rfl _ _ 31 rfl w.heap.size 5 i0 _ 1 1 Tryz.underlying31 hi hz0 hz1 hz2 rfl (by decide) _ _ _ rfl (HO2.out.alloc _) ⟨v2.heap.size, 0, none⟩ 2 2 [.int .u8 92, .int .u8 92] rfl rfl (World.news_of_block (cs := #[.int .u8 92, .int .u8 92]) (t := 5) (fr := (0, 0)) (heap_alloc_new _ _)) (by simp [Value.oneCell']) (by simp only [maxLen]; omega) (by omega) (by have hz9 := HB2.out.size; simp; omega) ?_
         intro v3 w3 hown3 hg3 hx3
         clear hx3
         have HI3 := Zz.mk (iter_grown (HO2.out.alloc _) hg3 (iter_alloc HI2.out _))
         have HB3 := Zz.mk ((HB2.out.alloc HB2.out.size _).grown hg3 (by have hz9 := HB2.out.size; simp; omega) (fun k hk => own_base HO2.out k hk))
         have HO3 := Zz.mk hown3
         clear hown3 hg3))
        go_roundw
        case rel => exact ⟨pos + wd, f2, L ++ [92, 92], HI3.out, ⟨by simpa [nums] using HO3.out⟩, HR2, by simp; omega, HB3⟩
        case measure => rw [iterPos_of HI3.out]; exact HMM2.out
      · have t34 : ((r : Int) == 34) = false := beq_eq_false_iff_ne.2 (by omega)
        have t92 : ((r : Int) == 92) = false := beq_eq_false_iff_ne.2 (by omega)
        by_cases h32 : r < 32
        · rw [show quoteP s (pos, r, wd) = [92, 120, hexd (bt s pos / 16), hexd (bt s pos % 16)] by simp [quoteP, h34, h92, h32]] at HR2
          have t32 : (r : Int) < 32 := by omega
          clear h34 h92 h32
          have HPi := Zz.mk hpi
          have ix1 := idx_str s pos hp
          have hb0 := (bt_range s pos).1
          have hb1 := (bt_range s pos).2
          generalize bt s pos = b at *
          have b15 := bits15 b hb0 hb1
          have ix2 := idx_hex (b / 16) .u8 (by omega) (by omega)
          have ix3 := idx_hex (b % 16) .u8 (by omega) (by omega)
          clear hpl
          go_wp2_with fail
          go_region_held3 (fun W => True) (first | trivial)
           ((refine step_append_lies _ (by rfl) _ _ _ (by rfl) w.heap.size 5 i0 _ 1 1 Tryz.underlying31 hi hz0 hz1 hz2 rfl (by decide) _ _ _ (by rfl) ((HO2.out.alloc _).drew) ⟨v2.heap.size, 0, none⟩ 4 4 [.int .u8 92, .int .u8 120, .int .u8 (hexd (b / 16)), .int .u8 (hexd (b % 16))] (by rfl) (by rfl) (World.news_of_block (cs := #[.int .u8 92, .int .u8 120, .int .u8 (hexd (b / 16)), .int .u8 (hexd (b % 16))]) (t := 5) (fr := (0, 0)) (heap_alloc_new v2 _)) (by simp [Value.oneCell']) (by omega) (by simp only [maxLen]; omega) (by omega) (by have hz9 := HB2.out.size; simp; omega) (v2.heap.size + 1) (by simp) ?_; intro gg3 cap3 w3 hown3 hg3 hat3 hlt3))
          all_goals
           have HI3 := Zz.mk (iter_grown ((HO2.out.alloc _).drew) hg3 (iter_alloc HI2.out _))
           have HB3 := Zz.mk ((HB2.out.alloc HB2.out.size _).drew.grown hg3 (by have hz9 := HB2.out.size; simp; omega) (fun k hk => own_base HO2.out k hk))
           have HO3 := Zz.mk hown3
           clear hown3 hg3 hat3 hlt3
           go_wp2
           go_roundw
           case rel => exact ⟨pos + wd, f2, L ++ [92, 120, hexd (b / 16), hexd (b % 16)], HI3.out, ⟨by simpa [nums] using HO3.out⟩, HR2, by simp; omega, HB3⟩
           case measure => rw [iterPos_of HI3.out]; exact HMM2.out
        · have t32 : ¬ (r : Int) < 32 := by omega
          by_cases h127 : r = 127
          · subst h127
            rw [show quoteP s (pos, 127, wd) = [92, 120, hexd (bt s pos / 16), hexd (bt s pos % 16)] by simp [quoteP]] at HR2
            clear h34 h92 h32 t34 t92 t32
            have HPi := Zz.mk hpi
            have ix1 := idx_str s pos hp
            have hb0 := (bt_range s pos).1
            have hb1 := (bt_range s pos).2
            generalize bt s pos = b at *
            have b15 := bits15 b hb0 hb1
            have ix2 := idx_hex (b / 16) .u8 (by omega) (by omega)
            have ix3 := idx_hex (b % 16) .u8 (by omega) (by omega)
            clear hpl
            go_wp2_with fail
            go_region_held3 (fun W => True) (first | trivial)
             ((refine step_append_lies _ (by rfl) _ _ _ (by rfl) w.heap.size 5 i0 _ 1 1 Tryz.underlying31 hi hz0 hz1 hz2 rfl (by decide) _ _ _ (by rfl) ((HO2.out.alloc _).drew) ⟨v2.heap.size, 0, none⟩ 4 4 [.int .u8 92, .int .u8 120, .int .u8 (hexd (b / 16)), .int .u8 (hexd (b % 16))] (by rfl) (by rfl) (World.news_of_block (cs := #[.int .u8 92, .int .u8 120, .int .u8 (hexd (b / 16)), .int .u8 (hexd (b % 16))]) (t := 5) (fr := (0, 0)) (heap_alloc_new v2 _)) (by simp [Value.oneCell']) (by omega) (by simp only [maxLen]; omega) (by omega) (by have hz9 := HB2.out.size; simp; omega) (v2.heap.size + 1) (by simp) ?_; intro gg3 cap3 w3 hown3 hg3 hat3 hlt3))
            all_goals
             have HI3 := Zz.mk (iter_grown ((HO2.out.alloc _).drew) hg3 (iter_alloc HI2.out _))
             have HB3 := Zz.mk ((HB2.out.alloc HB2.out.size _).drew.grown hg3 (by have hz9 := HB2.out.size; simp; omega) (fun k hk => own_base HO2.out k hk))
             have HO3 := Zz.mk hown3
             clear hown3 hg3 hat3 hlt3
             go_wp2
             go_roundw
             case rel => exact ⟨pos + wd, f2, L ++ [92, 120, hexd (b / 16), hexd (b % 16)], HI3.out, ⟨by simpa [nums] using HO3.out⟩, HR2, by simp; omega, HB3⟩
             case measure => rw [iterPos_of HI3.out]; exact HMM2.out
          · have t127 : ((r : Int) == 127) = false := beq_eq_false_iff_ne.2 (by omega)
            by_cases hE : r = 65533 /\ wd = 1
            · obtain ⟨rfl, hw1'⟩ := hE
              obtain rfl : 1 = wd := hw1'.symm
              rw [show quoteP s (pos, 65533, 1) = [92, 120, hexd (bt s pos / 16), hexd (bt s pos % 16)] by simp [quoteP]] at HR2
              clear h34 h92 h32 t34 t92 t32 h127 t127
              have HPi := Zz.mk hpi
              have ix1 := idx_str s pos hp
              have hb0 := (bt_range s pos).1
              have hb1 := (bt_range s pos).2
              generalize bt s pos = b at *
              have b15 := bits15 b hb0 hb1
              have ix2 := idx_hex (b / 16) .u8 (by omega) (by omega)
              have ix3 := idx_hex (b % 16) .u8 (by omega) (by omega)
              clear hpl
              go_wp2_with fail
              go_region_held3 (fun W => True) (first | trivial)
               ((refine step_append_lies _ (by rfl) _ _ _ (by rfl) w.heap.size 5 i0 _ 1 1 Tryz.underlying31 hi hz0 hz1 hz2 rfl (by decide) _ _ _ (by rfl) ((HO2.out.alloc _).drew) ⟨v2.heap.size, 0, none⟩ 4 4 [.int .u8 92, .int .u8 120, .int .u8 (hexd (b / 16)), .int .u8 (hexd (b % 16))] (by rfl) (by rfl) (World.news_of_block (cs := #[.int .u8 92, .int .u8 120, .int .u8 (hexd (b / 16)), .int .u8 (hexd (b % 16))]) (t := 5) (fr := (0, 0)) (heap_alloc_new v2 _)) (by simp [Value.oneCell']) (by omega) (by simp only [maxLen]; omega) (by omega) (by have hz9 := HB2.out.size; simp; omega) (v2.heap.size + 1) (by simp) ?_; intro gg3 cap3 w3 hown3 hg3 hat3 hlt3))
              all_goals
               have HI3 := Zz.mk (iter_grown ((HO2.out.alloc _).drew) hg3 (iter_alloc HI2.out _))
               have HB3 := Zz.mk ((HB2.out.alloc HB2.out.size _).drew.grown hg3 (by have hz9 := HB2.out.size; simp; omega) (fun k hk => own_base HO2.out k hk))
               have HO3 := Zz.mk hown3
               clear hown3 hg3 hat3 hlt3
               go_wp2
               go_roundw
               case rel => exact ⟨pos + 1, f2, L ++ [92, 120, hexd (b / 16), hexd (b % 16)], HI3.out, ⟨by simpa [nums] using HO3.out⟩, HR2, by simp; omega, HB3⟩
               case measure => rw [iterPos_of HI3.out]; exact HMM2.out
            · have hP : quoteP s (pos, r, wd) = bytesOf (s.extract pos (pos + wd)) := by
               unfold quoteP
               rw [if_neg (by simp; omega), if_neg (by simp; omega)]
              rw [hP] at HR2 hpl
              clear hP
              have hsz : (s.extract pos (pos + wd)).size = wd := by rw [ByteArray.size_extract]; omega
              have hlen : (bytesOf (s.extract pos (pos + wd))).length = wd := by unfold bytesOf; rw [List.length_map, Array.length_toList]; exact hsz
              have hSZ := Zz.mk hsz
              have hLN := Zz.mk hlen
              have hp1 : (pos : Int) + wd <= s.size := by omega
              have hp2 : (pos : Int) <= (pos : Int) + wd := by omega
              have hwr : IntKind.i64.wrap ((pos : Int) + wd) = (pos : Int) + wd := IntWalk.i64_in _ (by omega)
              clear hsz hlen hpl
              by_cases hR3 : r = 65533
              · have hW := Lib.hid hR3
                have tw : ((wd : Int) == 1) = false := beq_eq_false_iff_ne.2 (by omega)
                have tr : ((r : Int) == 65533) = true := beq_iff_eq.2 (by omega)
                clear hR3 hE h34 h92 h127 h32
                go_wp2_with (first
                 | (at_builtin
                    refine Lib.wpList_append_own_string _ rfl _ _ 31 9 rfl w.heap.size 5 i0 Tryz.underlying31 Tryz.underlying9 hi hz0 hz1 hz2 _ _ _ rfl HO2.out (s.extract pos (pos + wd)) (by first | rfl | (simp [Act.eval])) (by rw [hSZ.out]; simp only [maxLen]; omega) (by rw [hSZ.out]; omega) HB2.out.size ?_
                    intro v3 w3 hown3 hg3 hx3
                    clear hx3
                    have HI3 := Zz.mk (iter_grown HO2.out hg3 HI2.out)
                    have HB3 := Zz.mk (HB2.out.grown hg3 HB2.out.size (fun k hk => own_base HO2.out k hk))
                    rw [hSZ.out, strCells_nums, <- nums_append] at hown3
                    have HO3 : Zz (w3.ownsRow w.heap.size 5 1 v3 (L ++ bytesOf (s.extract pos (pos + wd))).length (nums .u8 (L ++ bytesOf (s.extract pos (pos + wd))))) := ⟨by rw [List.length_append, hLN.out]; exact hown3⟩
                    clear hown3 hg3))
                go_roundw
                case rel => exact ⟨pos + wd, f2, L ++ bytesOf (s.extract pos (pos + wd)), HI3.out, HO3, HR2, by rw [List.length_append, hLN.out]; omega, HB3⟩
                case measure => rw [iterPos_of HI3.out]; exact HMM2.out
              · have tr : ((r : Int) == 65533) = false := beq_eq_false_iff_ne.2 (by omega)
                clear hR3 hE h34 h92 h127 h32
                go_wp2_with (first
                 | (at_builtin
                    refine Lib.wpList_append_own_string _ rfl _ _ 31 9 rfl w.heap.size 5 i0 Tryz.underlying31 Tryz.underlying9 hi hz0 hz1 hz2 _ _ _ rfl HO2.out (s.extract pos (pos + wd)) (by first | rfl | (simp [Act.eval])) (by rw [hSZ.out]; simp only [maxLen]; omega) (by rw [hSZ.out]; omega) HB2.out.size ?_
                    intro v3 w3 hown3 hg3 hx3
                    clear hx3
                    have HI3 := Zz.mk (iter_grown HO2.out hg3 HI2.out)
                    have HB3 := Zz.mk (HB2.out.grown hg3 HB2.out.size (fun k hk => own_base HO2.out k hk))
                    rw [hSZ.out, strCells_nums, <- nums_append] at hown3
                    have HO3 : Zz (w3.ownsRow w.heap.size 5 1 v3 (L ++ bytesOf (s.extract pos (pos + wd))).length (nums .u8 (L ++ bytesOf (s.extract pos (pos + wd))))) := ⟨by rw [List.length_append, hLN.out]; exact hown3⟩
                    clear hown3 hg3))
                go_roundw
                case rel => exact ⟨pos + wd, f2, L ++ bytesOf (s.extract pos (pos + wd)), HI3.out, HO3, HR2, by rw [List.length_append, hLN.out]; omega, HB3⟩
                case measure => rw [iterPos_of HI3.out]; exact HMM2.out
  · have hnx := fun ty => Lib.run_next_end_at (P := Tryz.prog) wr (w.heap.size + 1) s pos ty hit hp
    have hE : Zz (L = [34] ++ quoteF s (runesOf s)) := ⟨by have := hR.out.1; rw [rns_end s fuel pos hp] at this; simpa [quoteF] using this⟩
    have HO2 := hO
    have HB2 := hB
    have hL2 : L.length <= 70368744177665 := by have := hR.out.2.2; omega
    clear hR hO hB
    go_wp2_with (first
     | (at_builtin
        refine wpList_append_own _ rfl _ _ 31 rfl w.heap.size 5 i0 _ 1 1 Tryz.underlying31 hi hz0 hz1 hz2 rfl (by decide) _ _ _ rfl (HO2.out.alloc _) ⟨wr.heap.size, 0, none⟩ 1 1 [.int .u8 34] rfl rfl (World.news_of_block (cs := #[.int .u8 34]) (t := 5) (fr := (0, 0)) (heap_alloc_new _ _)) (by simp [Value.oneCell']) (by simp only [maxLen]; omega) (by omega) (by have hz9 := HB2.out.size; simp; omega) ?_
        intro v3 w3 hown3 hg3 hx3
        clear hx3
        have HB3 := Zz.mk ((HB2.out.alloc HB2.out.size _).grown hg3 (by have hz9 := HB2.out.size; simp; omega) (fun k hk => own_base HO2.out k hk))
        have hcv := own_string (P := Tryz.prog) (src := 31) (dst := 9) Tryz.underlying31 Tryz.underlying5 Tryz.underlying9 (show w3.ownsRow w.heap.size 5 1 v3 (L.length + 1) (nums .u8 (L ++ [34])) by simpa [nums] using hown3)
        clear hown3 hg3))
    go_ret
    exact ⟨by rw [hE.out]; rfl, HB3.out⟩
/-- is a rune a digit; what it is worth -/
def isd (r : Nat) : Bool := (decide (48 <= r) && decide (r <= 57)) || (decide (97 <= r) && decide (r <= 102))
def dv (r : Nat) : Int := if r <= 57 then (r : Int) - 48 else (r : Int) - 87
/-- digits, two to a byte; an odd one is the high half -/
def pk : List Int -> List Int
 | [] => []
 | [a] => [a * 16]
 | a :: b :: t => (a * 16 + b) :: pk t
theorem pk_len : ∀ l : List Int, (pk l).length = (l.length + 1) / 2
 | [] => rfl
 | [a] => by simp [pk]
 | a :: b :: t => by simp only [pk, List.length_cons]; rw [pk_len t]; omega
theorem pk_even : ∀ (l : List Int) (d : Int), l.length % 2 = 0 -> pk (l ++ [d]) = pk l ++ [d * 16]
 | [], d, _ => rfl
 | [a], d, h => by simp at h
 | a :: b :: t, d, h => by
   simp only [pk, List.cons_append]
   rw [pk_even t d (by simp at h; omega)]
theorem pk_odd : ∀ (l : List Int) (d : Int), l.length % 2 = 1 -> pk (l ++ [d]) = (pk l).set (l.length / 2) ((pk l).getD (l.length / 2) 0 + d)
 | [], d, h => by simp at h
 | [a], d, h => by simp [pk]
 | a :: b :: t, d, h => by
   simp only [pk, List.cons_append, List.length_cons]
   rw [pk_odd t d (by simp at h; omega)]
   have : (t.length + 1 + 1) / 2 = t.length / 2 + 1 := by omega
   rw [this]
   simp
/-- at an odd number of digits the last byte is a high half -/
theorem pk_last : ∀ (l : List Int), l.length % 2 = 1 -> (∀ x ∈ l, 0 <= x /\ x < 16) -> ∃ a : Int, 0 <= a /\ a < 16 /\ (pk l).getD (l.length / 2) 0 = a * 16
 | [], h, _ => by simp at h
 | [a], h, hb => ⟨a, (hb a (by simp)).1, (hb a (by simp)).2, by simp [pk]⟩
 | a :: b :: t, h, hb => by
   obtain ⟨c, h0, h1, h2⟩ := pk_last t (by simp at h; omega) (fun x hx => hb x (by simp [hx]))
   refine ⟨c, h0, h1, ?_⟩
   simp only [pk, List.length_cons]
   have : (t.length + 1 + 1) / 2 = t.length / 2 + 1 := by omega
   rw [this]
   simpa using h2
/-- The answer, from the runes: ds: digits so far. -/
def unhexR (ds : List Int) : List Nat -> List Int × Int × Int
 | [] => if ds.length % 2 = 1 then ([], ds.length, 10) else (pk ds, ds.length, 0)
 | r :: t => if isd r = true then unhexR (ds ++ [dv r]) t else ([], ds.length, 10)
def rv (l : List (Nat × Nat × Nat)) : List Nat := l.map (·.2.1)
def unhexS (s : ByteArray) : List Int × Int × Int := unhexR [] (rv (runesOf s))
theorem dv_bd {r : Nat} (h : isd r = true) : 0 <= dv r /\ dv r < 16 := by
 unfold isd at h; unfold dv
 simp at h
 split <;> omega
theorem or_low (a d : Int) (h0 : 0 <= a) (h1 : a < 16) (h2 : 0 <= d) (h3 : d < 16) : Go.bits .or .u8 (a * 16) d = a * 16 + d := by
 obtain ⟨m, rfl⟩ := Int.eq_ofNat_of_zero_le h0
 obtain ⟨n, rfl⟩ := Int.eq_ofNat_of_zero_le h2
 have : ∀ (x y : Fin 16), Go.bits .or .u8 (((x.val : Nat) : Int) * 16) ((y.val : Nat) : Int) = ((x.val : Nat) : Int) * 16 + ((y.val : Nat) : Int) := by decide +kernel
 exact this ⟨m, by omega⟩ ⟨n, by omega⟩
theorem c_digit (r : Nat) (w : World) (h : r <= 2147483647) :
 Calls Tryz.prog 124 #[.int .i32 r] w fun e w' => e = .returned (.tuple #[.int .u8 (if isd r = true then dv r else 0), .bool (isd r)]) /\ w' = w := by
 by_cases a : 48 <= r /\ r <= 57
 · have e : isd r = true := by simp [isd, a]
   have e2 : dv r = (r : Int) - 48 := by unfold dv; rw [if_pos a.2]
   rw [e, if_pos rfl, e2]
   have a1 : (48 : Int) <= r := by omega
   have a2 : (r : Int) <= 57 := by omega
   clear e e2 a
   go_enter Tryz.func124, Tryz.ntmps124
   go_wp2
   go_ret2
   exact ⟨rfl, rfl⟩
 · by_cases b : 97 <= r /\ r <= 102
   · have e : isd r = true := by simp [isd, b]
     have e2 : dv r = (r : Int) - 97 + 10 := by unfold dv; rw [if_neg (by omega)]; omega
     rw [e, if_pos rfl, e2]
     have a1 : (48 : Int) <= r := by omega
     have a2 : ¬ (r : Int) <= 57 := by omega
     have a3 : (97 : Int) <= r := by omega
     have a4 : (r : Int) <= 102 := by omega
     clear e e2 a b
     go_enter Tryz.func124, Tryz.ntmps124
     go_wp2
     go_ret2
     exact ⟨rfl, rfl⟩
   · have e : isd r = false := by
      unfold isd
      rw [Bool.eq_false_iff]
      simp
      omega
     rw [e, if_neg (by decide)]
     have hr : (r : Int) <= 2147483647 := by omega
     clear e
     by_cases c : (48 : Int) <= r
     · have c2 : ¬ (r : Int) <= 57 := by omega
       by_cases d : (97 : Int) <= r
       · have d2 : ¬ (r : Int) <= 102 := by omega
         clear a b
         go_enter Tryz.func124, Tryz.ntmps124
         go_wp2
         go_ret2
         exact ⟨rfl, rfl⟩
       · clear a b
         go_enter Tryz.func124, Tryz.ntmps124
         go_wp2
         go_ret2
         exact ⟨rfl, rfl⟩
     · have d : ¬ (97 : Int) <= r := by omega
       clear a b
       go_enter Tryz.func124, Tryz.ntmps124
       go_wp2
       go_ret2
       exact ⟨rfl, rfl⟩
theorem iter_grownR {w w' : World} {v : Value} {k : Nat} {s : ByteArray} {pos base : Nat} {e : TypeId} {ok : Nat -> Prop} {xs : List Int} (h : Kd.R (Kd.int .u8) e w base ok v xs) (hg : w.grownBy w' v.ownBlock) (hit : w.heap[k]? = some (.stringIter s pos)) : w'.heap[k]? = some (.stringIter s pos) :=
 iter_grown (Kd.own_of_R h) hg hit
theorem R_iterAt {w : World} {v : Value} {k : Nat} {s : ByteArray} {pos base : Nat} {e : TypeId} {xs : List Int} (h : Kd.R (Kd.int .u8) e w base (fun _ => True) v xs) (hk : w.heap[k]? = some (.stringIter s pos)) (p : Nat) : Kd.R (Kd.int .u8) e (w.iterAt k s p) base (fun _ => True) v xs :=
 Kd.R_of_own (row_iterAt (Kd.own_of_R h) hk p) (fun _ _ => trivial)
theorem iter_setCell {w : World} {g k j pos : Nat} {s : ByteArray} {cs : Array Value} {e : TypeId} {v : Value} (hg : w.heap[g]? = some (.cells cs e)) (hk : w.heap[k]? = some (.stringIter s pos)) : (w.setCell ⟨g, j, none⟩ v).heap[k]? = some (.stringIter s pos) := by
 have hne : g ≠ k := by rintro rfl; rw [hg] at hk; cases hk
 exact (Below.heap_setCell w ⟨g, j, none⟩ v k (Ne.symm hne)).trans hk
theorem unhex_walk (s : ByteArray) (w : World) (hs : s.size <= 140737488351232) :
 Calls Tryz.prog 80 #[.string s] w fun e w' => ∃ v : Value, e = .returned (.tuple #[v, .int .i64 (unhexS s).2.1, .int .i64 (unhexS s).2.2]) /\ Kd.R (Kd.int .u8) 5 w' w.heap.size (fun _ => True) v (unhexS s).1 /\ Below w.heap.size w w' := by
 obtain ⟨U, hU⟩ : ∃ U, unhexS s = U := ⟨_, rfl⟩
 have HU := Lib.hid hU
 rw [hU]
 clear hU
 have hnl := rns_len s s.size 0
 go_enter Tryz.func80, Tryz.ntmps80
 go_wp2
 go_loopw [5, 6] (fun v5 v6 wr => ∃ (pos fuel : Nat) (ds : List Int), v6 = .int .i64 (ds.length : Int) /\ wr.heap[w.heap.size + 1]? = some (.stringIter s pos) /\ Zz (Kd.R (Kd.int .u8) 5 wr w.heap.size (fun _ => True) v5 (pk ds)) /\ Zz (unhexR ds (rv (rns s fuel pos)) = U /\ s.size <= pos + fuel /\ ∀ x ∈ ds, 0 <= x /\ x < 16) /\ ds.length + (rns s fuel pos).length <= s.size /\ Zz (Below w.heap.size w wr)) (fun _ _ wr => s.size - wr.iterPos (w.heap.size + 1))
 case atStart =>
  refine ⟨0, s.size, [], rfl, ?_, ⟨?_⟩, ⟨HU.out, by omega, by simp⟩, by simp; omega, ⟨((Below.refl _ _).alloc (Nat.le_refl _) _).alloc (by simp) _⟩⟩
  · simpa using iter_new (w.alloc (.cells #[] 5)) s
  · exact Kd.R_of_own ((World.ownsRow_lit (base := w.heap.size) (e := 5) (size := 1) w #[] 0 (Nat.le_refl _) (by simp [maxLen]) (by simp)).alloc _) (fun _ _ => trivial)
 case round =>
  obtain ⟨pos, fuel, ds, rfl, hit, hO, hR, hN, hB⟩ := hrel
  by_cases hp : pos < s.size
  · have hw1 := Lib.decode_width_pos s pos hp
    obtain ⟨f2, hf2, he2⟩ := rns_step s fuel pos hp hR.out.2.1
    have hnx := fun ty => Lib.run_next_any_at (P := Tryz.prog) wr (w.heap.size + 1) s pos ty hit hp
    have hd3 := decode_le s pos
    have HI0 := Lib.iterAt_heap wr (w.heap.size + 1) s pos (pos + (Utf8.decode s pos).2) hit
    have HB0 := Lib.below_iterAt hB.out (show w.heap.size <= w.heap.size + 1 by omega) s (pos + (Utf8.decode s pos).2)
    have HM0 := iter_less hw1 hit hp
    have HO0 := R_iterAt hO.out hit (pos + (Utf8.decode s pos).2)
    generalize hd : Utf8.decode s pos = d at *
    obtain ⟨r, wd⟩ := d
    simp only at *
    have hR1 := hR.out.1
    have hRd := hR.out.2.2
    rw [he2] at hR1 hN
    simp only [rv, List.map_cons, unhexR, List.length_cons] at hR1 hN
    have Cd := fun W => c_digit r W hd3
    have HBI := Zz.mk HB0
    have HII := Zz.mk HI0
    have HMM : Zz (s.size - (pos + wd) < s.size - wr.iterPos (w.heap.size + 1)) := ⟨by rwa [iterPos_of HI0] at HM0⟩
    have HOO := Zz.mk HO0
    have hF := Zz.mk hf2
    clear hd he2 hf2 hR HI0 HB0 HM0 HO0 hO hB
    by_cases hdg : isd r = true
    · rw [if_pos hdg] at hR1
      have hdb := dv_bd hdg
      rw [hdg, if_pos rfl] at Cd
      have cd := Lib.hid Cd
      clear Cd hdg
      have hdb0 := hdb.1
      have hdb1 := hdb.2
      generalize dv r = dd at *
      have HRD : Zz (∀ x ∈ ds ++ [dd], 0 <= x /\ x < 16) := ⟨fun x hx => by
       rcases List.mem_append.1 hx with h | h
       · exact hRd x h
       · simp at h; subst h; exact hdb⟩
      have HR1 := Zz.mk hR1
      have HRd := Zz.mk hRd
      clear hR1 hRd hdb
      by_cases hev : ds.length % 2 = 0
      · have tev : (((ds.length : Int) % 2) == 0) = true := beq_iff_eq.2 (by omega)
        have hpk := Zz.mk (pk_even ds dd hev)
        have hpl := pk_len ds
        clear hev
        go_wp2_with (first
         | (go_at_call 124; refine (cd.out _).mono ?_; rintro e w' ⟨rfl, rfl⟩)
         | ((with_reducible refine gate_builtin (b := .append) (xs := #[.tmp 28, .tmp 31]) rfl ?_)
            at_builtin
            refine Kd.R_append (Kd.int .u8) (w0 := w) w.heap.size rfl (.tmp 28) (.tmp 31) 31 5 (.int .u8 0) 1 rfl Tryz.underlying31 info_u8 rfl (by decide) (by omega) u5 (pk ds) (dd * 16) [.int .u8 (dd * 16)] (fun _ => True) (fun _ => False) rfl rfl ?aP (fun _ hk => hk.elim) ?aF ?aO ?aB ?aS ?aL ?_
            (case aP => exact rfl)
            (case aB => exact (by repeat (first | (with_reducible first | exact HBI.out | apply below_alloc | apply pw_below_drewN | apply below_drew1) | exact HBI.out)))
            (case aF => exact (fun _ _ => trivial))
            (case aO => exact (by (with_reducible repeat (first | apply Kd.R_alloc | apply Kd.R_drewN | apply Kd.R_drew)); exact HOO.out))
            (case aS => exact (below_size (by repeat (first | (with_reducible first | exact HBI.out | apply below_alloc | apply pw_below_drewN | apply below_drew1) | exact HBI.out))))
            (case aL => omega)
            intro v1 w1 ho hb hg hat
            rw [<- hpk.out] at ho
            have HI1 := Zz.mk (iter_grownR HOO.out hg HII.out)
            have HB1 := Zz.mk hb
            have HO1 := Zz.mk ho
            clear hg hat ho hb))
        go_roundw
        case rel => exact ⟨pos + wd, f2, ds ++ [dd], by simp, HI1.out, HO1, ⟨HR1.out, hF.out, HRD.out⟩, by simp; omega, HB1⟩
        case measure => rw [iterPos_of HI1.out]; exact HMM.out
      · have tod : (((ds.length : Int) % 2) == 0) = false := beq_eq_false_iff_ne.2 (by omega)
        have hod : ds.length % 2 = 1 := by omega
        have hpk := pk_odd ds dd hod
        obtain ⟨h8, h80, h81, h82⟩ := pk_last ds hod HRd.out
        have hpl := pk_len ds
        obtain ⟨go, co, eo, gb, gl, cl, HG⟩ := Kd.R_form HOO.out (by omega)
        subst eo
        have hi0 : (0 : Int) <= (ds.length : Int) / 2 := by omega
        have hi1 : (ds.length : Int) / 2 < ((pk ds).length : Int) := by omega
        have et : ((ds.length : Int) / 2).toNat = ds.length / 2 := by omega
        obtain ⟨hx, hf⟩ := Kd.R_celln 0 HOO.out ((ds.length : Int) / 2) hi0 hi1
        have hp3 := (Kd.R_putg HOO.out ((ds.length : Int) / 2) (h8 * 16 + dd)).1
        rw [et] at hx hf hp3
        have hrd : rdOf 0 (pk ds) ((ds.length : Int) / 2) = h8 * 16 := by unfold rdOf; rw [et]; exact h82
        rw [hrd] at hx
        clear hrd
        rw [h82] at hpk
        rw [<- hpk] at hp3
        have hor := or_low h8 dd h80 h81 hdb0 hdb1
        have HO1 := Zz.mk hp3
        have HB1 := Zz.mk (below_set HBI.out gb (v := .int .u8 (h8 * 16 + dd)) (j := ds.length / 2))
        clear hp3 h82 hpk hod hev
        go_wp2_with (first
         | (go_at_call 124; refine (cd.out _).mono ?_; rintro e w' ⟨rfl, rfl⟩)
         | fail)
        have HO2 := HO1.out
        rw [hpl] at HO2
        have HI1 : ((wr.iterAt (w.heap.size + 1) s (pos + wd)).setCell ⟨go, ds.length / 2, none⟩ (.int .u8 (h8 * 16 + dd))).heap[w.heap.size + 1]? = some (.stringIter s (pos + wd)) := (iter_setCell HG HII.out)
        go_roundw
        case rel => exact ⟨pos + wd, f2, ds ++ [dd], by simp, HI1, ⟨HO2⟩, ⟨HR1.out, hF.out, HRD.out⟩, by simp; omega, HB1⟩
        case measure => rw [iterPos_of HI1]; exact HMM.out
    · have hdf : isd r = false := by simpa using hdg
      rw [if_neg hdg] at hR1
      rw [hdf, if_neg (by decide)] at Cd
      have cd := Lib.hid Cd
      subst hR1
      clear Cd hdg hdf
      go_wp2_with (first
       | (go_at_call 124; refine (cd.out _).mono ?_; rintro e w' ⟨rfl, rfl⟩)
       | fail)
      exact bodyPost_ret (v := .tuple #[.slice none 0 0, .int .i64 ds.length, .int .i64 10]) (by simp [results, Tryz.results80, go_sem]) rfl ⟨_, rfl, Kd.R_nil _ _ _ _ _, HBI.out⟩
  · have hnx := fun ty => Lib.run_next_end_at (P := Tryz.prog) wr (w.heap.size + 1) s pos ty hit hp
    have hR1 := hR.out.1
    rw [rns_end s fuel pos hp] at hR1
    simp only [rv, List.map_nil, unhexR] at hR1
    by_cases hod : ds.length % 2 = 1
    · rw [if_pos hod] at hR1
      subst hR1
      have tod : (((ds.length : Int) % 2) == 1) = true := beq_iff_eq.2 (by omega)
      clear hod
      go_wp2
      exact bodyPost_ret (v := .tuple #[.slice none 0 0, .int .i64 ds.length, .int .i64 10]) (by simp [results, Tryz.results80, go_sem]) rfl ⟨_, rfl, Kd.R_nil _ _ _ _ _, hB.out⟩
    · rw [if_neg hod] at hR1
      subst hR1
      have tod : (((ds.length : Int) % 2) == 1) = false := beq_eq_false_iff_ne.2 (by omega)
      clear hod
      go_wp2
      exact bodyPost_ret (v := .tuple #[u5, .int .i64 ds.length, .int .i64 0]) (by simp [results, Tryz.results80, go_sem]) rfl ⟨_, rfl, hO.out, hB.out⟩
theorem below_new (w : World) (o : Obj) : Below w.heap.size w (w.alloc o) := (Below.refl _ _).alloc (Nat.le_refl _) o
def hexS (l : List Int) : List Int := l.flatMap fun x => [hexd (x / 16), hexd (x % 16)]
theorem hexS_len (l : List Int) : (hexS l).length = 2 * l.length := by
 induction l with
 | nil => rfl
 | cons a t ih => simp [hexS] at ih ⊢; omega
theorem hexS_snoc (l : List Int) (x : Int) : hexS (l ++ [x]) = hexS l ++ [hexd (x / 16), hexd (x % 16)] := by simp [hexS]
theorem strOfNums_append (a b : List Int) : strOfNums (a ++ b) = strOfNums a ++ strOfNums b := by
 apply ByteArray.ext
 rw [<- Array.toList_inj, ByteArray.data_append, Array.toList_append, strOfNums_data, strOfNums_data, strOfNums_data, List.map_append]
theorem sl_hex (x : Int) (k : IntKind) (h0 : 0 <= x) (h1 : x < 16) : ∀ W, (Instr.slice 9 (.string ⟨#[48, 49, 50, 51, 52, 53, 54, 55, 56, 57, 97, 98, 99, 100, 101, 102]⟩) (some (.int k x)) (some (.int k (x + 1))) none).run Tryz.prog W = .ok (.string (strOfNums [hexd x])) W := by
 intro W
 obtain rfl | rfl | rfl | rfl | rfl | rfl | rfl | rfl | rfl | rfl | rfl | rfl | rfl | rfl | rfl | rfl : x = 0 \/ x = 1 \/ x = 2 \/ x = 3 \/ x = 4 \/ x = 5 \/ x = 6 \/ x = 7 \/ x = 8 \/ x = 9 \/ x = 10 \/ x = 11 \/ x = 12 \/ x = 13 \/ x = 14 \/ x = 15 := by omega
 all_goals (simp [Instr.slice, run_underlying Tryz.underlying9, go_sem]; rfl)
/-- a list's numbers are bytes -/
def Bytes (l : List Int) : Prop := ∀ x ∈ l, 0 <= x /\ x <= 255
theorem Bytes.get {l : List Int} (h : Bytes l) (i : Nat) (hi : i < l.length) : 0 <= l.getD i 0 /\ l.getD i 0 <= 255 := by
 rw [List.getD_eq_getElem?_getD, List.getElem?_eq_getElem hi]
 exact h _ (List.getElem_mem hi)
theorem take_snoc (l : List Int) (i : Nat) (hi : i < l.length) : l.take (i + 1) = l.take i ++ [l.getD i 0] := by
 rw [List.take_add_one, List.getD_eq_getElem?_getD, List.getElem?_eq_getElem hi]
 rfl
theorem below_drewN' {b : Nat} {w w' : World} (h : Below b w w') (n : Nat) : Below b w (w'.drewN n) := pw_below_drewN h n
theorem refHex_walk (A : Option Addr) (c : Nat) (l : List Int) (w : World) (hC : Kd.C (Kd.int .u8) w A l.length l) (hc : l.length <= c) (hb : Bytes l) (hl : l.length <= 1048576) :
 Calls Tryz.prog 75 #[.slice A l.length c] w fun e w' => e = .returned (.string (strOfNums (hexS l))) /\ Below w.heap.size w w' := by
 have HC := Zz.mk hC
 have HBy := Lib.hid hb
 clear hC hb
 go_enter Tryz.func75, Tryz.ntmps75
 go_wp2
 go_loopw [3, 8] (fun v3 v8 wr => ∃ (i : Nat), i <= l.length /\ v8 = .int .i64 (i : Int) /\ v3 = .string (strOfNums (hexS (l.take i))) /\ Zz (Below w.heap.size w wr)) (fun _ v8 _ => l.length - (intOf v8).toNat)
 case atStart => exact ⟨0, by omega, rfl, rfl, ⟨Below.refl _ _⟩⟩
 case round =>
  obtain ⟨i, hi, rfl, rfl, hB⟩ := hrel
  by_cases hlt : i < l.length
  · have hti : (i : Int) < (l.length : Int) := by omega
    have hg := Bytes.get HBy.out i hlt
    obtain ⟨ad, ea, hx⟩ := Kd.at_int HC.out (i : Int) (by omega) hti
    subst ea
    rw [Int.toNat_natCast] at hx
    replace hx := (hB.out.cell (World.block_lt_of_cell? w _ hx)).trans hx
    have hsn := congrArg hexS (take_snoc l i hlt)
    rw [hexS_snoc] at hsn
    have hsz : (strOfNums (hexS (l.take i))).size = 2 * i := by rw [strOfNums_size, hexS_len, List.length_take]; omega
    rw [show rd l (i : Int) = l.getD i 0 by simp [rd]] at hx
    generalize l.getD i 0 = b at *
    generalize hexS (l.take i) = T at *
    have hb0 := hg.1
    have hb1 := hg.2
    have g1 := sl_hex (b / 16) .u8 (by omega) (by omega)
    have g2 := sl_hex (b % 16) .u8 (by omega) (by omega)
    have hw1 : IntKind.u8.wrap (b / 16 + 1) = b / 16 + 1 := IntWalk.u8_in _ (by omega)
    have hw2 : IntKind.u8.wrap (b % 16 + 1) = b % 16 + 1 := IntWalk.u8_in _ (by omega)
    have e1 : IntKind.u8.wrap (b.tdiv 16) = b / 16 := by rw [Int.tdiv_eq_ediv_of_nonneg hb0]; exact IntWalk.u8_in _ (by omega)
    have e2 : b.tmod 16 = b % 16 := Int.tmod_eq_emod_of_nonneg hb0
    have ha1 := fun W => run_string_add_sum (P := Tryz.prog) W (strOfNums [hexd (b / 16)]) (strOfNums [hexd (b % 16)]) (by simp [strOfNums_size])
    rw [<- strOfNums_append] at ha1
    simp only [List.cons_append, List.nil_append] at ha1
    have ha2 := fun W => run_string_add_sum (P := Tryz.prog) W (strOfNums T) (strOfNums [hexd (b / 16), hexd (b % 16)]) (by rw [hsz, strOfNums_size]; simp; omega)
    rw [<- strOfNums_append] at ha2
    have HSN : Zz (T ++ [hexd (b / 16), hexd (b % 16)] = hexS (List.take (i + 1) l)) := ⟨by rw [hsn]⟩
    have HSZ := Zz.mk hsz
    clear hsn hsz hg
    go_wp2
    go_quiet (fail)
    go_wp2
    go_roundw
    case rel => exact ⟨i + 1, by omega, by go_num, by rw [<- HSN.out], ⟨below_drewN' hB.out nq⟩⟩
    case measure => simp [intOf]; omega
  · obtain rfl : i = l.length := by omega
    rw [List.take_length]
    go_wp2
    go_ret
    exact ⟨rfl, hB.out⟩
theorem bt_hex (x : Int) (h0 : 0 <= x) (h1 : x < 16) : bt (⟨#[48, 49, 50, 51, 52, 53, 54, 55, 56, 57, 97, 98, 99, 100, 101, 102]⟩ : ByteArray) x = hexd x := by
 obtain rfl | rfl | rfl | rfl | rfl | rfl | rfl | rfl | rfl | rfl | rfl | rfl | rfl | rfl | rfl | rfl : x = 0 \/ x = 1 \/ x = 2 \/ x = 3 \/ x = 4 \/ x = 5 \/ x = 6 \/ x = 7 \/ x = 8 \/ x = 9 \/ x = 10 \/ x = 11 \/ x = 12 \/ x = 13 \/ x = 14 \/ x = 15 := by omega
 all_goals rfl
theorem w64 (x : Int) (h : -9223372036854775808 <= x /\ x <= 9223372036854775807) : wrap64 x = x := (i64_w x).symm.trans (IntWalk.i64_in x h)
theorem drop_cons (l : List Int) (i : Nat) (h : i < l.length) : l.drop i = l.getD i 0 :: l.drop (i + 1) := by
 rw [List.drop_eq_getElem_cons h, List.getD_eq_getElem?_getD, List.getElem?_eq_getElem h]
 rfl
theorem iter_drawn {W W' : World} {k : Nat} {x : Option Obj} (h : W.heap[k]? = x) (hd : Drawn0 W W') : W'.heap[k]? = x := by obtain ⟨n, rfl⟩ := hd; simpa using h
theorem R_drawn {W W' : World} {b e : Nat} {ok : Nat -> Prop} {v : Value} {l : List Int} (h : Kd.R (Kd.int .u8) e W b ok v l) (hd : Drawn0 W W') : Kd.R (Kd.int .u8) e W' b ok v l := by obtain ⟨n, rfl⟩ := hd; exact Kd.R_drewN h n
theorem below_drawn {b : Nat} {w W W' : World} (h : Below b w W) (hd : Drawn0 W W') : Below b w W' := by obtain ⟨n, rfl⟩ := hd; exact pw_below_drewN h n
theorem pk_even2 (l : List Int) (a d : Int) (h : l.length % 2 = 0) : pk (l ++ [a] ++ [d]) = pk l ++ [a * 16 + d] := by
 rw [pk_odd (l ++ [a]) d (by simp; omega), pk_even l a h]
 have h1 : (l ++ [a]).length / 2 = (pk l).length := by rw [pk_len, List.length_append, List.length_singleton]
 rw [h1]
 simp
theorem ext_dig (d : Nat) (h : d < 10) : (⟨#[48, 49, 50, 51, 52, 53, 54, 55, 56, 57, 97, 98, 99, 100, 101, 102]⟩ : ByteArray).extract d (d + 1) = strOfNums [48 + (d : Int)] := by
 obtain rfl | rfl | rfl | rfl | rfl | rfl | rfl | rfl | rfl | rfl : d = 0 \/ d = 1 \/ d = 2 \/ d = 3 \/ d = 4 \/ d = 5 \/ d = 6 \/ d = 7 \/ d = 8 \/ d = 9 := by omega
 all_goals rfl
theorem u64w (x : Int) (h : 0 <= x /\ x <= 18446744073709551615) : IntKind.u64.wrap x = x := by rw [IntKind.wrap_u64]; omega
def stepN (n : Int) (r : Nat) : Int := IntKind.u64.wrap (IntKind.u64.wrap (n * 10) + ((r : Int) - 48))
def numR : List Nat -> Int -> Option Int
 | [], n => some n
 | r :: t, n => if 48 <= r /\ r <= 57 then numR t (stepN n r) else none
def numS (s : ByteArray) : Int × Int :=
 if s.size = 0 \/ 20 < s.size then (0, 12) else match numR (rv (runesOf s)) 0 with
  | none => (0, 12)
  | some n => if strOfNums (decL n.toNat) = s then (n, 0) else (0, 12)
theorem str_ne {a b : ByteArray} (h : a ≠ b) : (a.toList == b.toList) = false := by
 rw [beq_eq_false_iff_ne, ByteArray.toList_eq, ByteArray.toList_eq]
 exact fun e => h (Go.WideShapes.bytes_inj e)
theorem decL_pos (n : Nat) : 0 < (decL n).length := by rw [decL]; split <;> simp
theorem stepN_bd (n : Int) (r : Nat) : 0 <= stepN n r /\ stepN n r <= 18446744073709551615 := by unfold stepN; rw [IntKind.wrap_u64]; omega
theorem number_walk (s : ByteArray) (w : World) (hs : s.size <= 140737488351232) :
 Calls Tryz.prog 123 #[.string s] w fun e w' => e = .returned (.tuple #[.int .u64 (numS s).1, .int .i64 (numS s).2]) /\ Below w.heap.size w w' := by
 obtain ⟨U, hU⟩ : ∃ U, numS s = U := ⟨_, rfl⟩
 have HU := Lib.hid hU
 rw [hU]
 clear hU
 go_enter Tryz.func123, Tryz.ntmps123
 go_wp2
 go_loopw [4] (fun v4 wr => ∃ (pos fuel : Nat) (n : Int), v4 = .int .u64 n /\ wr.heap[w.heap.size]? = some (.stringIter s pos) /\ Zz (s.size <= pos + fuel /\ (pos = 0 \/ s.size <= 20) /\ (s.size <= 20 -> numR (rv (rns s fuel pos)) n = numR (rv (runesOf s)) 0)) /\ (0 <= n /\ n <= 18446744073709551615) /\ Zz (Below w.heap.size w wr)) (fun _ wr => s.size - wr.iterPos w.heap.size)
 case atStart => exact ⟨0, s.size, 0, rfl, iter_new w s, ⟨by omega, .inl rfl, fun _ => rfl⟩, by omega, ⟨below_iter w s⟩⟩
 case round =>
  obtain ⟨pos, fuel, n, rfl, hit, hR, hn, hB⟩ := hrel
  have hn0 := hn.1
  have hn1 := hn.2
  clear hn
  by_cases hp : pos < s.size
  · have hw1 := Lib.decode_width_pos s pos hp
    obtain ⟨f2, hf2, he2⟩ := rns_step s fuel pos hp hR.out.1
    have hnx := fun ty => Lib.run_next_any_at (P := Tryz.prog) wr w.heap.size s pos ty hit hp
    have hd3 := decode_le s pos
    have HI0 := Lib.iterAt_heap wr w.heap.size s pos (pos + (Utf8.decode s pos).2) hit
    have HB0 := Lib.below_iterAt hB.out (Nat.le_refl _) s (pos + (Utf8.decode s pos).2)
    have HM0 := iter_less hw1 hit hp
    generalize hd : Utf8.decode s pos = d at *
    obtain ⟨r, wd⟩ := d
    simp only at *
    have hR1 := hR.out.2
    rw [he2] at hR1
    simp only [rv, List.map_cons, numR] at hR1
    have HBI := Zz.mk HB0
    have HII := Zz.mk HI0
    have HMM : Zz (s.size - (pos + wd) < s.size - wr.iterPos w.heap.size) := ⟨by rwa [iterPos_of HI0] at HM0⟩
    have hF := Zz.mk hf2
    clear hd he2 hf2 hR HI0 HB0 HM0 hB
    have hcond : (48 <= r /\ r <= 57 /\ s.size <= 20) \/ (r < 48 \/ 57 < r \/ 20 < s.size) := by omega
    rcases hcond with ⟨h1, h2, h3⟩ | hbad
    · rw [if_pos ⟨h1, h2⟩] at hR1
      have HR := Zz.mk hR1
      have t1 : ¬ (r : Int) < 48 := by omega
      have t2 : ¬ (57 : Int) < (r : Int) := by omega
      have t3 : ¬ (20 : Int) < (s.size : Int) := by omega
      have hsb := stepN_bd n r
      clear hR1 h1 h2
      go_wp2
      go_roundw
      case rel => exact ⟨pos + wd, f2, stepN n r, rfl, HII.out, ⟨hF.out, .inr h3, HR.out.2⟩, hsb, HBI⟩
      case measure => rw [iterPos_of HII.out]; exact HMM.out
    · have hU : U = (0, 12) := by
       rw [<- HU.out]
       unfold numS
       by_cases h3 : 20 < s.size
       · rw [if_pos (.inr h3)]
       · rw [if_neg (by omega), show rv (runesOf s) = List.map (fun x => x.2.1) (runesOf s) from rfl, <- hR1.2 (by omega), if_neg (by omega)]
      subst hU
      clear hR1
      by_cases h1 : r < 48
      · have t1 : (r : Int) < 48 := by omega
        clear hbad
        go_wp2
        exact bodyPost_ret (v := .tuple #[.int .u64 0, .int .i64 12]) (by simp [results, Tryz.results123, go_sem]) rfl ⟨rfl, HBI.out⟩
      · have t1 : ¬ (r : Int) < 48 := by omega
        by_cases h2 : 57 < r
        · have t2 : (57 : Int) < (r : Int) := by omega
          clear hbad
          go_wp2
          exact bodyPost_ret (v := .tuple #[.int .u64 0, .int .i64 12]) (by simp [results, Tryz.results123, go_sem]) rfl ⟨rfl, HBI.out⟩
        · have t2 : ¬ (57 : Int) < (r : Int) := by omega
          have t3 : (20 : Int) < (s.size : Int) := by omega
          clear hbad
          go_wp2
          exact bodyPost_ret (v := .tuple #[.int .u64 0, .int .i64 12]) (by simp [results, Tryz.results123, go_sem]) rfl ⟨rfl, HBI.out⟩
  · have hnx := fun ty => Lib.run_next_end_at (P := Tryz.prog) wr w.heap.size s pos ty hit hp
    have hR1 := hR.out.2
    rw [rns_end s fuel pos hp] at hR1
    simp only [rv, List.map_nil, numR] at hR1
    have h20 : s.size <= 20 := by omega
    have hnum := hR1.2 h20
    have cd := Lib.hid (fun W => octet_Decimal.calls n (strOfNums (decL n.toNat)) W (by unfold octet_Decimal.f; rw [if_pos hn0, if_pos (by omega)]))
    have hHU := HU.out
    unfold numS at hHU
    rw [show rv (runesOf s) = List.map (fun x => x.2.1) (runesOf s) from rfl, <- hnum] at hHU
    simp only at hHU
    by_cases he : strOfNums (decL n.toNat) = s
    · have hne : s.size ≠ 0 := by rw [<- he, strOfNums_size]; have := decL_pos n.toNat; omega
      rw [if_neg (by omega), if_pos he] at hHU
      subst hHU
      rw [he] at cd
      clear hR1 hR hnum he
      go_wp2_with (first
       | (go_at_call 108; refine (cd.out _).mono ?_; rintro e v1 ⟨rfl, hb1⟩)
       | fail)
      exact bodyPost_ret (v := .tuple #[.int .u64 n, .int .i64 0]) (by simp [results, Tryz.results123, go_sem]) rfl ⟨rfl, hB.out.trans (hb1.mono hB.out.size)⟩
    · have hU : U = (0, 12) := by
       rw [if_neg he, ite_self] at hHU
       exact hHU.symm
      subst hU
      clear hR1 hR hnum hHU
      have te := str_ne he
      generalize strOfNums (decL n.toNat) = D at *
      go_wp2_with (first
       | (go_at_call 108; refine (cd.out _).mono ?_; rintro e v1 ⟨rfl, hb1⟩)
       | fail)
      exact bodyPost_ret (v := .tuple #[.int .u64 0, .int .i64 12]) (by simp [results, Tryz.results123, go_sem]) rfl ⟨rfl, hB.out.trans (hb1.mono hB.out.size)⟩
/-- the reference's digit, as Digits reads it -/
theorem rd_dec (r : Nat) : (48 <= r /\ r <= 57 /\ (if isd r = true then dv r else -1) = (r : Int) - 48) \/ (¬ (48 <= r /\ r <= 57) /\ ((if isd r = true then dv r else -1) < 0 \/ (¬ (if isd r = true then dv r else -1) < 0 /\ 9 < (if isd r = true then dv r else -1)))) := by
 by_cases h : 48 <= r /\ r <= 57
 · left
   refine ⟨h.1, h.2, ?_⟩
   have e : isd r = true := by simp [isd, h]
   rw [if_pos e]
   unfold dv
   rw [if_pos h.2]
 · right
   refine ⟨h, ?_⟩
   by_cases e : isd r = true
   · right
     rw [if_pos e]
     unfold isd at e
     unfold dv
     simp at e
     rw [if_neg (by omega)]
     omega
   · left
     rw [if_neg e]
     omega
def badR (r : Nat) : Prop := r < 32 \/ (127 <= r /\ r <= 159) \/ r = 32 \/ r = 160 \/ r = 8232 \/ r = 8233 \/ r = 12288 \/ r = 34 \/ r = 92 \/ r = 65533
instance (r : Nat) : Decidable (badR r) := by unfold badR; infer_instance
/-- none of the runes is a bad one -/
def goodL (l : List (Nat × Nat × Nat)) : Bool := l.all fun x => decide (¬ badR x.2.1)
def labelS (s : ByteArray) : Bool := goodL (runesOf s) && (decide (1 <= (runesOf s).length) && decide ((runesOf s).length <= 24))
theorem width_le' (s : ByteArray) (pos : Nat) (h : pos < s.size) : pos + (Utf8.decode s pos).2 <= s.size := by
 have hne : s.data.toList.drop pos ≠ [] := by
  intro h0
  have := congrArg List.length h0
  simp only [List.length_drop, Array.length_toList, List.length_nil] at this
  have : s.data.size = s.size := rfl
  omega
 have := Lib.decodeL_le (s.data.toList.drop pos) hne
 rw [Lib.decodeL_drop s pos, List.length_drop, Array.length_toList] at this
 have : s.data.size = s.size := rfl
 omega
theorem iterPos_at {w : World} {k pos : Nat} {s : ByteArray} (h : w.heap[k]? = some (.stringIter s pos)) : w.iterPos k = pos := by unfold World.iterPos; rw [h]
theorem labelS_parts (s : ByteArray) (N : Nat) (b : Bool) (hN : (runesOf s).length = N) (hb : goodL (runesOf s) = b) : labelS s = (b && (decide (1 <= N) && decide (N <= 24))) := by unfold labelS; rw [hN, hb]
theorem label_walk (s : ByteArray) (w : World) (hs : s.size <= 140737488351232) :
 Calls Tryz.prog 61 #[.string s] w fun e w' => e = .returned (.bool (labelS s)) /\ Below w.heap.size w w' := by
 obtain ⟨U, hU⟩ : ∃ U, labelS s = U := ⟨_, rfl⟩
 have HU := Lib.hid hU
 rw [hU]
 clear hU
 have hl : (runesOf s).length <= s.size := by have := rns_len s s.size 0; unfold runesOf; omega
 obtain ⟨N, hN⟩ : ∃ N, (runesOf s).length = N := ⟨_, rfl⟩
 rw [hN] at hl
 have HN := Lib.hid hN
 clear hN
 go_enter Tryz.func61, Tryz.ntmps61
 go_wp2
 go_step3
 go_wp2
 go_step3
 go_wp2
 go_loopw [3] (fun v3 wr => ∃ (pos fuel n : Nat), v3 = .int .i64 n /\ wr.heap[w.heap.size]? = some (.stringIter s pos) /\ Zz (n + (rns s fuel pos).length = N /\ s.size <= pos + fuel /\ goodL (rns s fuel pos) = goodL (runesOf s)) /\ n <= N /\ Zz (Below w.heap.size w wr)) (fun _ wr => s.size - wr.iterPos w.heap.size)
 case atStart => exact ⟨0, s.size, 0, rfl, iter_new w s, ⟨by have := HN.out; unfold runesOf at this; omega, by omega, rfl⟩, by omega, ⟨below_iter w s⟩⟩
 case round =>
  obtain ⟨pos, fuel, n, rfl, hit, hR, hn, hB⟩ := hrel
  by_cases hp : pos < s.size
  · have hw1 := Lib.decode_width_pos s pos hp
    obtain ⟨f2, hf2, he2⟩ := rns_step s fuel pos hp hR.out.2.1
    have hnx := fun ty => Lib.run_next_any_at (P := Tryz.prog) wr w.heap.size s pos ty hit hp
    have hd3 := decode_le s pos
    have HI0 := Lib.iterAt_heap wr w.heap.size s pos (pos + (Utf8.decode s pos).2) hit
    have HB0 := Lib.below_iterAt hB.out (Nat.le_refl _) s (pos + (Utf8.decode s pos).2)
    have HM0 := iter_less hw1 hit hp
    generalize hd : Utf8.decode s pos = d at *
    obtain ⟨r, wd⟩ := d
    simp only at *
    have hR1 := hR.out
    rw [he2] at hR1
    have hR2 : goodL (runesOf s) = (decide (¬ badR r) && goodL (rns s f2 (pos + wd))) := by rw [<- hR1.2.2]; simp [goodL]
    have HBI := Zz.mk HB0
    have HII := Zz.mk HI0
    have HMM : Zz (s.size - (pos + wd) < s.size - wr.iterPos w.heap.size) := ⟨by rwa [iterPos_at HI0] at HM0⟩
    have hR3 : n + 1 + (rns s f2 (pos + wd)).length = N := by have := hR1.1; rw [List.length_cons] at this; omega
    have hn1 : n + 1 <= N := by omega
    have HR3 := Zz.mk hR3
    have hF := Zz.mk hf2
    clear hd he2 hf2 hR HI0 HB0 HM0 hB hR1 hR3
    by_cases hbad : badR r
    · have hU : U = false := by
       rw [<- HU.out]
       unfold labelS
       rw [hR2, decide_eq_false (not_not_intro hbad)]
       rfl
      subst hU
      clear hR2
      unfold badR at hbad
      rcases hbad with hb | hb | rfl | rfl | rfl | rfl | rfl | rfl | rfl | rfl
      · have t1 : (r : Int) < 32 := by omega
        clear hb
        go_wp2
        try rw [Exit.noGoto_ret]
        go_ret
        exact ⟨rfl, HBI.out⟩
      · have t1 : ¬ (r : Int) < 32 := by omega
        have t2 : (127 : Int) <= (r : Int) := by omega
        have t3 : (r : Int) <= 159 := by omega
        clear hb
        go_wp2
        try rw [Exit.noGoto_ret]
        go_ret
        exact ⟨rfl, HBI.out⟩
      all_goals
       go_wp2
       try rw [Exit.noGoto_ret]
       go_ret
       exact ⟨rfl, HBI.out⟩
    · have HR2 : Zz (goodL (rns s f2 (pos + wd)) = goodL (runesOf s)) := ⟨by rw [hR2, decide_eq_true hbad]; rfl⟩
      clear hR2
      unfold badR at hbad
      have t1 : ¬ (r : Int) < 32 := by omega
      have q1 : ¬ (r : Int) = 32 := by omega
      have q2 : ¬ (r : Int) = 160 := by omega
      have q3 : ¬ (r : Int) = 8232 := by omega
      have q4 : ¬ (r : Int) = 8233 := by omega
      have q5 : ¬ (r : Int) = 12288 := by omega
      have q6 : ¬ (r : Int) = 34 := by omega
      have q7 : ¬ (r : Int) = 92 := by omega
      have q8 : ¬ (r : Int) = 65533 := by omega
      have hc : r < 127 \/ 159 < r := by omega
      clear hbad
      rcases hc with hc | hc
      · have t2 : ¬ (127 : Int) <= (r : Int) := by omega
        clear hc
        go_wp2
        go_roundw
        case rel => exact ⟨pos + wd, f2, n + 1, by go_num, HII.out, ⟨HR3.out, hF.out, HR2.out⟩, hn1, HBI⟩
        case measure => rw [iterPos_at HII.out]; exact HMM.out
      · have t2 : (127 : Int) <= (r : Int) := by omega
        have t3 : ¬ (r : Int) <= 159 := by omega
        clear hc
        go_wp2
        go_roundw
        case rel => exact ⟨pos + wd, f2, n + 1, by go_num, HII.out, ⟨HR3.out, hF.out, HR2.out⟩, hn1, HBI⟩
        case measure => rw [iterPos_at HII.out]; exact HMM.out
  · have hnx := fun ty => Lib.run_next_end_at (P := Tryz.prog) wr w.heap.size s pos ty hit hp
    have hR1 := hR.out
    rw [rns_end s fuel pos hp] at hR1
    have hg : goodL (runesOf s) = true := by rw [<- hR1.2.2]; rfl
    have hnN : n = N := by have := hR1.1; simpa using this
    have hU : U = (decide (1 <= n) && decide (n <= 24)) := by rw [<- HU.out, labelS_parts s N true HN.out hg, hnN]; rfl
    clear hR1 hR hg hnN
    by_cases h1 : 1 <= n
    · by_cases h2 : n <= 24
      · have t1 : (1 : Int) <= (n : Int) := by omega
        have t2 : (n : Int) <= 24 := by omega
        rw [decide_eq_true h1, decide_eq_true h2] at hU
        replace hU : U = true := hU
        subst hU
        clear h1 h2
        go_wp2
        try rw [Exit.noGoto_ret]
        go_ret
        exact ⟨rfl, hB.out⟩
      · have t1 : (1 : Int) <= (n : Int) := by omega
        have t2 : ¬ (n : Int) <= 24 := by omega
        rw [decide_eq_true h1, decide_eq_false h2] at hU
        replace hU : U = false := hU
        subst hU
        clear h1 h2
        go_wp2
        try rw [Exit.noGoto_ret]
        go_ret
        exact ⟨rfl, hB.out⟩
    · have t1 : ¬ (1 : Int) <= (n : Int) := by omega
      rw [decide_eq_false h1] at hU
      replace hU : U = false := hU
      subst hU
      clear h1
      go_wp2
      try rw [Exit.noGoto_ret]
      go_ret
      exact ⟨rfl, hB.out⟩
theorem bytesOf_append (a b : ByteArray) : bytesOf (a ++ b) = bytesOf a ++ bytesOf b := by simp [bytesOf, ByteArray.data_append]
theorem extract_split (s : ByteArray) (i j : Nat) (h : i <= j) (hj : j <= s.size) : s.extract i j ++ s.extract j s.size = s.extract i s.size := by
 rw [ByteArray.extract_append_extract, Nat.min_eq_left h, Nat.max_eq_right hj]
theorem strOfNums_bytesOf (s : ByteArray) : strOfNums (bytesOf s) = s := by
 apply ByteArray.ext
 rw [<- Array.toList_inj, strOfNums_data]
 rw [bytesOf, List.map_map]
 conv => rhs; rw [<- List.map_id s.data.toList]
 apply List.map_congr_left
 intro b _
 simp
theorem run_runes1 (n : Int) (W : World) : (convert 119 9 (.slice (some ⟨W.heap.size, 0, none⟩) 1 1)).run Tryz.prog (W.alloc (.cells #[.int .i32 n] 21)) = .ok (.string (Utf8.encode n)) (W.alloc (.cells #[.int .i32 n] 21)) := by
 have h := run_convert_runes (P := Tryz.prog) (W.alloc (.cells #[.int .i32 n] 21)) 119 9 21 ⟨W.heap.size, 0, none⟩ 1 1 [n] (by simp) (by kernel_rfl) (by kernel_rfl) (by kernel_rfl) (fun j hj => by
  obtain rfl : j = 0 := by simp at hj; omega
  simp [Addr.add])
 rw [h]
 have : runesBytes ([n].take 1) = Utf8.encode n := by
  simp [runesBytes]
 rw [this]
end Go.Proofs.YtpdinahdcedmkaaGreatDoor.Ext
