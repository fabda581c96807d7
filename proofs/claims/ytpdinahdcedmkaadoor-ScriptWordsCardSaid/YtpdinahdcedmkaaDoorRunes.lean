/- Ranges over a string: the runes of a text; octet.Runes, octet.Number, liveryref01.Digits. -/
import Derived.Test.YtpdinahdcedmkaaDoorDec
import Derived.Lib.OthersKept
import Derived.Lib.RuneCount
import Derived.Lib.Hide
namespace Go.Proofs.YtpdinahdcedmkaaDoor.Ext
set_option linter.unusedVariables false
open Go.RowKit Go.Proofs.YtpdinahdcedmkaaDoorW.PrintWords Go.Proofs.YtpdinahdcedmkaaDoorW.PrintLast Go.Proofs.YtpdinahdcedmkaaDoorW.PrintMore

/-- The runes from a place on: place, rune, width. -/
def rns (s : ByteArray) : Nat → Nat → List (Nat × Nat × Nat)
  | 0, _ => []
  | f + 1, pos => if pos < s.size then (pos, (Utf8.decode s pos).1, (Utf8.decode s pos).2) :: rns s f (pos + (Utf8.decode s pos).2) else []
def runesOf (s : ByteArray) : List (Nat × Nat × Nat) := rns s s.size 0
theorem rns_end (s : ByteArray) (f pos : Nat) (h : ¬ pos < s.size) : rns s f pos = [] := by
  cases f with
  | zero => rfl
  | succ f => simp [rns, h]
theorem rns_step (s : ByteArray) (f pos : Nat) (h : pos < s.size) (hf : s.size ≤ pos + f) : ∃ f', s.size ≤ (pos + (Utf8.decode s pos).2) + f' ∧ rns s f pos = (pos, (Utf8.decode s pos).1, (Utf8.decode s pos).2) :: rns s f' (pos + (Utf8.decode s pos).2) := by
  cases f with
  | zero => omega
  | succ f =>
    have := Lib.decode_width_pos s pos h
    exact ⟨f, by omega, by simp [rns, h]⟩
theorem rns_len (s : ByteArray) (f pos : Nat) : (rns s f pos).length ≤ s.size - pos := by
  induction f generalizing pos with
  | zero => simp [rns]
  | succ f ih =>
    unfold rns
    by_cases h : pos < s.size
    · have := Lib.decode_width_pos s pos h
      rw [if_pos h, List.length_cons]
      have := ih (pos + (Utf8.decode s pos).2)
      omega
    · rw [if_neg h]; simp
theorem ret_int {k : IntKind} {a b : Int} (h : a = b) : Ending.returned (.int k a) = .returned (.int k b) := by rw [h]
theorem ret_bool {a b : Bool} (h : a = b) : Ending.returned (.bool a) = .returned (.bool b) := by rw [h]
theorem iter_new (w : World) (s : ByteArray) : (w.iter s 0).heap[w.heap.size]? = some (.stringIter s 0) := World.iter_heap w s 0

theorem iter_less {w : World} {k : Nat} {s : ByteArray} {pos d : Nat} (hd : 1 ≤ d) (hit : w.heap[k]? = some (.stringIter s pos)) (hp : pos < s.size) : s.size - (w.iterAt k s (pos + d)).iterPos k < s.size - w.iterPos k := by
  have h1 := Lib.iterAt_heap w k s pos (pos + d) hit
  unfold World.iterPos
  rw [h1, hit]
  simp only
  omega
theorem below_iter (w : World) (s : ByteArray) : Below w.heap.size w (w.iter s 0) := (Below.refl _ _).alloc (Nat.le_refl _) _

def octet_Runes.f (a0 : ByteArray) : Option Int := if a0.size ≤ 9223372036854775807 then some ((runesOf a0).length : Int) else none
end Go.Proofs.YtpdinahdcedmkaaDoor.Ext
