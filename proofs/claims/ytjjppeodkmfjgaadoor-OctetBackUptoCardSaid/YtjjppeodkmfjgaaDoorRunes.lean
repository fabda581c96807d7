/- Ranges over a string: the runes of a text; octet.Runes, octet.Number, liveryref01.Digits. -/
import Derived.Test.YtjjppeodkmfjgaaDoorDec
import Derived.Lib.OthersKept
import Derived.Lib.RuneCount
import Derived.Lib.Hide
namespace Go.Proofs.YtjjppeodkmfjgaaDoor.Ext
set_option linter.unusedVariables false
open Go.RowKit Go.Proofs.YtjjppeodkmfjgaaDoorW.PrintWords Go.Proofs.YtjjppeodkmfjgaaDoorW.PrintLast Go.Proofs.YtjjppeodkmfjgaaDoorW.PrintMore

/-- The runes from a place on: place, rune, width. -/
def rns (s : ByteArray) : Nat → Nat → List (Nat × Nat × Nat)
  | 0, _ => []
  | f + 1, pos => if pos < s.size then (pos, (Utf8.decode s pos).1, (Utf8.decode s pos).2) :: rns s f (pos + (Utf8.decode s pos).2) else []
def runesOf (s : ByteArray) : List (Nat × Nat × Nat) := rns s s.size 0
theorem rns_end (s : ByteArray) (f pos : Nat) (h : ¬ pos < s.size) : rns s f pos = [] := by
  cases f with
  | zero => rfl
  | succ f => simp [rns, h]
theorem rns_step (s : ByteArray) (f pos : Nat) (h : pos < s.size) (hf : s.size ≤ pos + f) : ∃ f', s.size ≤ (pos + (Utf8.decode s pos).2) + f' ∧ rns s f pos = (pos, (Utf8.decode s pos).1, (Utf8.decode s pos).2) :: rns s f' (pos + (Utf8.decode s pos).2) := by
  cases f with
  | zero => omega
  | succ f =>
    have := Lib.decode_width_pos s pos h
    exact ⟨f, by omega, by simp [rns, h]⟩
theorem rns_len (s : ByteArray) (f pos : Nat) : (rns s f pos).length ≤ s.size - pos := by
  induction f generalizing pos with
  | zero => simp [rns]
  | succ f ih =>
    unfold rns
    by_cases h : pos < s.size
    · have := Lib.decode_width_pos s pos h
      rw [if_pos h, List.length_cons]
      have := ih (pos + (Utf8.decode s pos).2)
      omega
    · rw [if_neg h]; simp
theorem ret_int {k : IntKind} {a b : Int} (h : a = b) : Ending.returned (.int k a) = .returned (.int k b) := by rw [h]
theorem ret_bool {a b : Bool} (h : a = b) : Ending.returned (.bool a) = .returned (.bool b) := by rw [h]
theorem iter_new (w : World) (s : ByteArray) : (w.iter s 0).heap[w.heap.size]? = some (.stringIter s 0) := World.iter_heap w s 0

theorem iter_less {w : World} {k : Nat} {s : ByteArray} {pos d : Nat} (hd : 1 ≤ d) (hit : w.heap[k]? = some (.stringIter s pos)) (hp : pos < s.size) : s.size - (w.iterAt k s (pos + d)).iterPos k < s.size - w.iterPos k := by
  have h1 := Lib.iterAt_heap w k s pos (pos + d) hit
  unfold World.iterPos
  rw [h1, hit]
  simp only
  omega
theorem below_iter (w : World) (s : ByteArray) : Below w.heap.size w (w.iter s 0) := (Below.refl _ _).alloc (Nat.le_refl _) _

set_option maxHeartbeats 1000000 in
set_option maxRecDepth 100000 in
theorem runes_walk (s : ByteArray) (w : World) (hs : s.size ≤ maxLen) :
    Calls Tryd.prog 23 #[.string s] w fun e w' => e = .returned (.int .i64 ((runesOf s).length : Int)) ∧ Below w.heap.size w w' := by
  unfold maxLen at hs
  have hl : (runesOf s).length ≤ s.size := by have := rns_len s s.size 0; unfold runesOf; omega
  generalize hN : (runesOf s).length = N at *
  have HN := Lib.hid hN
  clear hN
  go_enter Tryd.func23, Tryd.ntmps23
  go_wp2
  go_loopw [3] (fun v wr => ∃ (pos fuel n : Nat), v = .int .i64 n ∧ wr.heap[w.heap.size]? = some (.stringIter s pos) ∧ Aside0 (n + (rns s fuel pos).length = N ∧ s.size ≤ pos + fuel) ∧ n ≤ N ∧ Below w.heap.size w wr) (fun _ wr => s.size - wr.iterPos w.heap.size)
  case atStart => exact ⟨0, s.size, 0, rfl, iter_new w s, ⟨by have := HN.out; unfold runesOf at this; omega, by omega⟩, by omega, below_iter w s⟩
  case round =>
    obtain ⟨pos, fuel, n, rfl, hit, hR, hn, hB⟩ := hrel
    by_cases hp : pos < s.size
    · have hnx := fun ty => Lib.run_next_any_at (P := Tryd.prog) wr w.heap.size s pos ty hit hp
      obtain ⟨f2, hf2, he2⟩ := rns_step s fuel pos hp hR.out.2
      have hR2 : Aside0 ((n + 1) + (rns s f2 (pos + (Utf8.decode s pos).2)).length = N ∧ s.size ≤ (pos + (Utf8.decode s pos).2) + f2) := ⟨by have := hR.out.1; rw [he2, List.length_cons] at this; omega, hf2⟩
      have hn1 : n + 1 ≤ N := by have := hR2.out.1; omega
      have hM := Aside0.mk (iter_less (Lib.decode_width_pos s pos hp) hit hp)
      have HI := Aside0.mk (Lib.iterAt_heap wr w.heap.size s pos (pos + (Utf8.decode s pos).2) hit)
      have HB := Aside0.mk (Lib.below_iterAt hB (Nat.le_refl _) s (pos + (Utf8.decode s pos).2))
      clear he2 hf2 hR hB
      go_wp2
      go_roundw
      case rel => exact ⟨_, f2, n + 1, by go_num, HI.out, hR2, hn1, HB.out⟩
      case measure => exact hM.out
    · have hnx := fun ty => Lib.run_next_end_at (P := Tryd.prog) wr w.heap.size s pos ty hit hp
      have hE : Aside0 (n = N) := ⟨by have := hR.out.1; rw [rns_end s fuel pos hp] at this; simpa using this⟩
      go_wp2
      go_ret
      exact ⟨ret_int (by rw [hE.out]), hB⟩
def octet_Runes.f (a0 : ByteArray) : Option Int := if a0.size ≤ 9223372036854775807 then some ((runesOf a0).length : Int) else none
theorem octet_Runes.calls (a0 : ByteArray) (r : Int) (w : World) (h : octet_Runes.f a0 = some r) :
    Calls Tryd.prog 23 #[.string a0] w fun e w' => e = .returned (.int .i64 r) ∧ Below w.heap.size w w' := by
  unfold octet_Runes.f at h
  by_cases h0 : a0.size ≤ 9223372036854775807
  · rw [if_pos h0] at h
    obtain rfl := Option.some.inj h
    exact runes_walk a0 w h0
  · rw [if_neg h0] at h; cases h
end Go.Proofs.YtjjppeodkmfjgaaDoor.Ext
