import Derived.Test.YtpdinahdcedmkaaDoorBase
import Derived.Lib.OthersKept
import Derived.Lib.RuneCount
import Derived.Lib.Hide
/- octet.Decimal returns the decimal digits of its argument: for any uint64, in any memory. -/
namespace Go.Proofs.YtpdinahdcedmkaaDoor.Ext
open Go.RowKit Go.Proofs.YtpdinahdcedmkaaDoorW.PrintWords Go.Proofs.YtpdinahdcedmkaaDoorW.PrintLast Go.Proofs.YtpdinahdcedmkaaDoorW.PrintMore

/-- the byte at place i of twenty, when n is written to end at place 19 -/
def dig (n : Nat) (i : Nat) : Int := 48 + ((n / 10 ^ (19 - i) % 10 : Nat) : Int)
/-- the last k digits -/
def digs (n k : Nat) : List Int := (List.range k).map fun j => dig n (20 - k + j)

structure Sel (n : Nat) (k : Nat) (cs : Array Value) : Prop where
  size : cs.size = 20
  at_ : ∀ i, 20 - k ≤ i → i < 20 → cs[i]? = some (.int .u8 (dig n i))

theorem Sel.step {n k : Nat} {cs : Array Value} (h : Sel n k cs) (hk : k < 20) (v : Int) (hv : v = dig n (19 - k)) : Sel n (k + 1) (cs.setIfInBounds (19 - k) (.int .u8 v)) := by
  subst hv
  refine ⟨by simp [h.size], fun i h1 h2 => ?_⟩
  rw [Array.getElem?_setIfInBounds]
  by_cases e : 19 - k = i
  · rw [if_pos e, if_pos (by rw [h.size]; omega), e]
  · rw [if_neg e]; exact h.at_ i (by omega) h2

theorem blk_set {w : World} {g : Nat} {cs : Array Value} {t : TypeId} (h : w.heap[g]? = some (.cells cs t (0, 0))) (i : Nat) (u : Value) :
    (w.setCell ⟨g, i, none⟩ u).heap[g]? = some (.cells (cs.setIfInBounds i u) t (0, 0)) := by
  simp [World.setCell, Array.getElem?_modify, h]
theorem blk_cell {w : World} {g : Nat} {cs : Array Value} {t : TypeId} (h : w.heap[g]? = some (.cells cs t (0, 0))) (i : Nat) : w.cell? ⟨g, i, none⟩ = cs[i]? := cell_of_row w g i cs t (0, 0) h
theorem blk_free {w : World} {g : Nat} {cs : Array Value} {t : TypeId} (h : w.heap[g]? = some (.cells cs t (0, 0))) (i : Nat) : w.frozen? ⟨g, i, none⟩ = false := by
  simp [World.frozen?, h]

theorem alen : Tryd.prog.arrayLen 125 = 20 := by kernel_rfl
theorem aelem : Tryd.prog.elem 125 = 5 := by kernel_rfl
theorem asize (w : World) : (sizeOf 5).run Tryd.prog w = .ok 1 w := by kernel_rfl

theorem run_cut (g j : Nat) (hj : j ≤ 19) (W : World) :
    (Instr.sliceAt 125 (.pointer (some ⟨g, 0, none⟩)) (some (.int .i64 (j : Int))) none none).run Tryd.prog W = .ok (.slice (some ⟨g, j, none⟩) (20 - j) (20 - j)) W := by
  rw [run_sliceAt_array_l W 125 ⟨g, 0, none⟩ (by rw [alen, aelem]; kernel_rfl) .i64 (j : Int) (by omega) (by rw [alen]; omega), aelem, asize, alen]
  simp only [Result.andThen, slicedAt, Int.toNat_natCast]
  rw [if_neg (by omega)]
  simp only [Nat.mul_one]
  unfold Addr.add
  by_cases h : j = 0
  · subst h; rfl
  · rw [if_neg h]; simp

theorem digs_length (n k : Nat) : (digs n k).length = k := by simp [digs]
theorem digs_get {n k j : Nat} (h : j < k) : (digs n k).getD j 0 = dig n (20 - k + j) := by
  simp [digs, List.getD_eq_getElem?_getD, List.getElem?_map, List.getElem?_range h]

theorem reads_of {W : World} {g j n k : Nat} {cs : Array Value} (h : W.heap[g]? = some (.cells cs 125 (0, 0))) (hs : Sel n k cs) (hk : k ≤ 20) (hj : j = 20 - k) :
    ReadsInt W .u8 (some ⟨g, j, none⟩) (20 - j) (digs n k) := by
  subst hj
  refine ⟨by rw [digs_length]; omega, by omega, fun _ => ⟨_, rfl, fun i hi => ?_⟩⟩
  have e : (⟨g, 20 - k, none⟩ : Addr).add i = ⟨g, 20 - k + i, none⟩ := by unfold Addr.add; split <;> simp_all
  rw [e, blk_cell h, digs_get (by omega), hs.at_ _ (by omega) (by omega)]

set_option maxHeartbeats 1000000 in
set_option maxRecDepth 100000 in
theorem dec_walk (n : Nat) (w : World) (hn : n < 2 ^ 64) :
    Calls Tryd.prog 52 #[.int .u64 n] w fun e w' => (∃ k, 0 < k ∧ k ≤ 20 ∧ n / 10 ^ k = 0 ∧ (1 < k → 0 < n / 10 ^ (k - 1)) ∧ e = .returned (.string (strOfNums (digs n k)))) ∧ Below w.heap.size w w' := by
  go_enter Tryd.func52, Tryd.ntmps52
  go_wp2
  go_loopw [0, 4] (fun v0 v4 wr => ∃ (k : Nat) (m : Nat) (cs : Array Value), k ≤ 20 ∧ v0 = .int .u64 m ∧ v4 = .int .i64 ((20 - k : Nat) : Int) ∧ wr.heap[w.heap.size]? = some (.cells cs 125 (0, 0)) ∧ Aside0 (Sel n k cs) ∧ Aside0 (m = n / 10 ^ k ∧ (0 < k → 0 < m)) ∧ Below w.heap.size w wr) (fun _ v4 _ => (intOf v4).toNat)
  case atStart => exact ⟨0, n, _, by omega, rfl, rfl, heap_alloc_new w _, ⟨⟨rfl, fun i h1 h2 => by omega⟩⟩, ⟨by simp, by omega⟩, (Below.refl _ _).alloc (Nat.le_refl _) _⟩
  case round =>
    obtain ⟨k, m, cs, hk, rfl, rfl, hblk, hsel, hm, hB⟩ := hrel
    have hm64 : m < 18446744073709551616 := by
      have := hm.out.1
      have := Nat.div_le_self n (10 ^ k)
      omega
    have hk2 : k < 20 := by
      have h1 := hm.out
      rcases Nat.lt_or_ge k 20 with h | h
      · exact h
      · obtain rfl : k = 20 := by omega
        have := h1.2 (by omega)
        rw [h1.1] at this
        rw [Nat.div_eq_of_lt (by omega)] at this
        omega
    obtain ⟨j, hj, hj9⟩ : ∃ j, j = 19 - k ∧ j ≤ 19 := ⟨19 - k, rfl, by omega⟩
    rw [show (20 - k : Nat) = j + 1 by omega]
    have hcell : wr.cell? ⟨w.heap.size, j, none⟩ = cs[j]? := blk_cell hblk j
    have hfree : wr.frozen? ⟨w.heap.size, j, none⟩ = false := blk_free hblk j
    obtain ⟨v, hv⟩ : ∃ v, cs[j]? = some v := ⟨_, Array.getElem?_eq_getElem (by rw [hsel.out.size]; omega)⟩
    rw [hv] at hcell
    have hb2 := blk_set hblk j (.int .u8 (48 + (m : Int) % 10))
    have hs2 : Sel n (k + 1) (cs.setIfInBounds j (.int .u8 (48 + (m : Int) % 10))) := by
      rw [hj]
      refine hsel.out.step hk2 _ ?_
      unfold dig
      rw [show 19 - (19 - k) = k by omega, ← hm.out.1]
      omega
    have hB2 : Below w.heap.size w (wr.setCell ⟨w.heap.size, j, none⟩ (.int .u8 (48 + (m : Int) % 10))) := hB.setCell (Nat.le_refl _) _
    have hd : n / 10 ^ (k + 1) = m / 10 := by rw [hm.out.1, Nat.pow_succ, Nat.div_div_eq_div_mul]
    by_cases h0 : m / 10 = 0
    · have t0 : (((m : Int) / 10) == 0) = true := beq_iff_eq.2 (by omega)
      have hcut := run_cut w.heap.size j hj9 (wr.setCell ⟨w.heap.size, j, none⟩ (.int .u8 (48 + (m : Int) % 10)))
      have hcv := string_of_reads (P := Tryd.prog) (src := 39) (dst := 9) (e := 5) (c := 20 - j) Tryd.underlying39 Tryd.underlying5 Tryd.underlying9 (reads_of hb2 hs2 (by omega) (by omega : j = 20 - (k + 1)))
      have HF := Aside0.mk (show 0 < k + 1 ∧ k + 1 ≤ 20 ∧ n / 10 ^ (k + 1) = 0 ∧ (1 < k + 1 → 0 < n / 10 ^ k) from ⟨by omega, by omega, by omega, fun h => by have := hm.out; rw [← this.1]; exact this.2 (by omega)⟩)
      have HB2 := Aside0.mk hB2
      clear hv hblk hj hd hb2 hs2 hB2
      go_wp2
      go_ret
      refine ⟨⟨k + 1, HF.out.1, HF.out.2.1, HF.out.2.2.1, HF.out.2.2.2, rfl⟩, HB2.out⟩
    · have t0 : (((m : Int) / 10) == 0) = false := beq_eq_false_iff_ne.2 (by omega)
      have HR : Aside0 (k + 1 ≤ 20 ∧ m / 10 = n / 10 ^ (k + 1) ∧ 0 < m / 10 ∧ j = 20 - (k + 1)) := ⟨by omega, hd.symm, by omega, by omega⟩
      have HB2 := Aside0.mk hB2
      have hb2' := Aside0.mk hb2
      have hs2' := Aside0.mk hs2
      clear hv hblk hj hd hb2 hs2 hB2
      go_wp2
      go_roundw
      case rel => exact ⟨k + 1, m / 10, _, HR.out.1, by go_num, by rw [← HR.out.2.2.2], hb2'.out, hs2', ⟨HR.out.2.1, fun _ => HR.out.2.2.1⟩, HB2.out⟩
      case measure => simp [intOf]
/-- The digits of a number. -/
def decL : Nat → List Int
  | n => if h : n < 10 then [48 + (n : Int)] else decL (n / 10) ++ [48 + ((n % 10 : Nat) : Int)]
  termination_by n => n
  decreasing_by omega
theorem decL_lt {n : Nat} (h : n < 10) : decL n = [48 + (n : Int)] := by rw [decL, dif_pos h]
theorem decL_ge {n : Nat} (h : ¬ n < 10) : decL n = decL (n / 10) ++ [48 + ((n % 10 : Nat) : Int)] := by rw [decL, dif_neg h]

theorem digs_snoc (n k : Nat) (hk : k < 20) : digs n (k + 1) = digs (n / 10) k ++ [48 + ((n % 10 : Nat) : Int)] := by
  unfold digs
  rw [List.range_succ, List.map_append]
  congr 1
  · apply List.map_congr_left
    intro j hj
    rw [List.mem_range] at hj
    unfold dig
    rw [show 19 - (20 - (k + 1) + j) = (19 - (20 - k + j)) + 1 by omega, Nat.pow_succ, Nat.mul_comm, Nat.div_div_eq_div_mul]
  · simp only [List.map_cons, List.map_nil, dig]
    rw [show 19 - (20 - (k + 1) + k) = 0 by omega, Nat.pow_zero, Nat.div_one]

theorem digs_dec (k : Nat) : ∀ n, 0 < k → k ≤ 20 → n / 10 ^ k = 0 → (1 < k → 0 < n / 10 ^ (k - 1)) → digs n k = decL n := by
  induction k with
  | zero => intro n h; omega
  | succ k ih =>
    intro n _ hk h0 h1
    rw [digs_snoc n k (by omega)]
    by_cases hz : k = 0
    · subst hz
      have hlt : n < 10 := by
        rw [Nat.pow_one] at h0
        omega
      rw [decL_lt hlt]
      simp [digs, Nat.mod_eq_of_lt hlt]
    · have h2 := h1 (by omega)
      rw [Nat.add_sub_cancel] at h2
      have hge : ¬ n < 10 := by
        intro hlt
        rw [Nat.div_eq_of_lt (Nat.lt_of_lt_of_le hlt (Nat.le_self_pow hz 10))] at h2
        omega
      rw [decL_ge hge, ih (n / 10) (by omega) (by omega) (by rw [Nat.div_div_eq_div_mul, Nat.mul_comm, ← Nat.pow_succ]; exact h0)]
      intro hk1
      rw [Nat.div_div_eq_div_mul, Nat.mul_comm, ← Nat.pow_succ, show (k - 1).succ = k by omega]
      exact h2

def octet_Decimal.f (a0 : Int) : Option ByteArray := if 0 ≤ a0 then if a0 < 18446744073709551616 then some (strOfNums (decL a0.toNat)) else none else none
theorem octet_Decimal.calls (a0 : Int) (r : ByteArray) (w : World) (h : octet_Decimal.f a0 = some r) :
    Calls Tryd.prog 52 #[.int .u64 a0] w fun e w' => e = .returned (.string r) ∧ Below w.heap.size w w' := by
  unfold octet_Decimal.f at h
  by_cases h0 : 0 ≤ a0
  · rw [if_pos h0] at h
    by_cases h1 : a0 < 18446744073709551616
    · rw [if_pos h1] at h
      obtain rfl := Option.some.inj h
      obtain ⟨n, rfl⟩ := Int.eq_ofNat_of_zero_le h0
      rw [Int.toNat_natCast]
      refine (dec_walk n w (by omega)).mono ?_
      rintro e w' ⟨⟨k, k0, k1, k2, k3, rfl⟩, hb⟩
      exact ⟨by rw [digs_dec k n k0 k1 k2 k3], hb⟩
    · rw [if_neg h1] at h; cases h
  · rw [if_neg h0] at h; cases h
end Go.Proofs.YtpdinahdcedmkaaDoor.Ext
/- Ranges over a string: the runes of a text; octet.Runes, octet.Number, liveryref01.Digits. -/
namespace Go.Proofs.YtpdinahdcedmkaaDoor.Ext
set_option linter.unusedVariables false
open Go.RowKit Go.Proofs.YtpdinahdcedmkaaDoorW.PrintWords Go.Proofs.YtpdinahdcedmkaaDoorW.PrintLast Go.Proofs.YtpdinahdcedmkaaDoorW.PrintMore

/-- The runes from a place on: place, rune, width. -/
def rns (s : ByteArray) : Nat → Nat → List (Nat × Nat × Nat)
  | 0, _ => []
  | f + 1, pos => if pos < s.size then (pos, (Utf8.decode s pos).1, (Utf8.decode s pos).2) :: rns s f (pos + (Utf8.decode s pos).2) else []
def runesOf (s : ByteArray) : List (Nat × Nat × Nat) := rns s s.size 0
theorem rns_end (s : ByteArray) (f pos : Nat) (h : ¬ pos < s.size) : rns s f pos = [] := by
  cases f with
  | zero => rfl
  | succ f => simp [rns, h]
theorem rns_step (s : ByteArray) (f pos : Nat) (h : pos < s.size) (hf : s.size ≤ pos + f) : ∃ f', s.size ≤ (pos + (Utf8.decode s pos).2) + f' ∧ rns s f pos = (pos, (Utf8.decode s pos).1, (Utf8.decode s pos).2) :: rns s f' (pos + (Utf8.decode s pos).2) := by
  cases f with
  | zero => omega
  | succ f =>
    have := Lib.decode_width_pos s pos h
    exact ⟨f, by omega, by simp [rns, h]⟩
theorem rns_len (s : ByteArray) (f pos : Nat) : (rns s f pos).length ≤ s.size - pos := by
  induction f generalizing pos with
  | zero => simp [rns]
  | succ f ih =>
    unfold rns
    by_cases h : pos < s.size
    · have := Lib.decode_width_pos s pos h
      rw [if_pos h, List.length_cons]
      have := ih (pos + (Utf8.decode s pos).2)
      omega
    · rw [if_neg h]; simp
theorem ret_bool {a b : Bool} (h : a = b) : Ending.returned (.bool a) = .returned (.bool b) := by rw [h]
theorem iter_new (w : World) (s : ByteArray) : (w.iter s 0).heap[w.heap.size]? = some (.stringIter s 0) := World.iter_heap w s 0

theorem iter_less {w : World} {k : Nat} {s : ByteArray} {pos d : Nat} (hd : 1 ≤ d) (hit : w.heap[k]? = some (.stringIter s pos)) (hp : pos < s.size) : s.size - (w.iterAt k s (pos + d)).iterPos k < s.size - w.iterPos k := by
  have h1 := Lib.iterAt_heap w k s pos (pos + d) hit
  unfold World.iterPos
  rw [h1, hit]
  simp only
  omega
theorem below_iter (w : World) (s : ByteArray) : Below w.heap.size w (w.iter s 0) := (Below.refl _ _).alloc (Nat.le_refl _) _

end Go.Proofs.YtpdinahdcedmkaaDoor.Ext
/- octet.big: a number in so many bytes, at most eight, the highest first. -/
namespace Go.Proofs.YtpdinahdcedmkaaDoor.Ext
set_option linter.unusedVariables false
open Go.RowKit Go.Proofs.YtpdinahdcedmkaaDoorW.PrintWords Go.Proofs.YtpdinahdcedmkaaDoorW.PrintLast Go.Proofs.YtpdinahdcedmkaaDoorW.PrintMore

theorem info_u8 : (Tryd.prog.info? 5).map (fun i => (i.zero, i.size, i.bytes)) = some (some (.int .u8 0), 1, 1) := by kernel_rfl
end Go.Proofs.YtpdinahdcedmkaaDoor.Ext
