/- param.plain, strings.HasPrefix, slices.Collect of the codes. -/
import Derived.Test.YtdnidnonjbjgmaaSlices
import Derived.Test.YtdnidnonjbjgmaaPName
import Derived.Lib.OthersKept
import Derived.Lib.RuneCount
import Derived.Lib.Hide
namespace Go.Proofs.Ytdnidnonjbjgmaa.Ext
set_option linter.unusedVariables false
open Go.RowKit Go.Shelf Go.Proofs.YtdnidnonjbjgmaaW.PrintWords Go.Proofs.YtdnidnonjbjgmaaW.PrintLast Go.Proofs.YtdnidnonjbjgmaaW.PrintMore Go.Proofs.Ytdnidnonjbjgmaa.Spec

def rns (s : ByteArray) : Nat → Nat → List Nat
  | 0, _ => []
  | f + 1, pos => if pos < s.size then (Utf8.decode s pos).1 :: rns s f (pos + (Utf8.decode s pos).2) else []
theorem rns_end (s : ByteArray) (f pos : Nat) (h : ¬ pos < s.size) : rns s f pos = [] := by
  cases f with
  | zero => rfl
  | succ f => simp [rns, h]
theorem rns_step (s : ByteArray) (f pos : Nat) (h : pos < s.size) (hf : s.size ≤ pos + f) : ∃ f', s.size ≤ (pos + (Utf8.decode s pos).2) + f' ∧ rns s f pos = (Utf8.decode s pos).1 :: rns s f' (pos + (Utf8.decode s pos).2) := by
  cases f with
  | zero => omega
  | succ f =>
    have := Lib.decode_width_pos s pos h
    exact ⟨f, by omega, by simp [rns, h]⟩
theorem iter_new (w : World) (s : ByteArray) : (w.iter s 0).heap[w.heap.size]? = some (.stringIter s 0) := World.iter_heap w s 0
theorem iter_less {w : World} {k : Nat} {s : ByteArray} {pos d : Nat} (hd : 1 ≤ d) (hit : w.heap[k]? = some (.stringIter s pos)) (hp : pos < s.size) : s.size - (w.iterAt k s (pos + d)).iterPos k < s.size - w.iterPos k := by
  have h1 := Lib.iterAt_heap w k s pos (pos + d) hit
  unfold World.iterPos
  rw [h1, hit]
  simp only
  omega
theorem below_iter (w : World) (s : ByteArray) : Below w.heap.size w (w.iter s 0) := (Below.refl _ _).alloc (Nat.le_refl _) _
theorem iterPos_at {w : World} {k pos : Nat} {s : ByteArray} (h : w.heap[k]? = some (.stringIter s pos)) : w.iterPos k = pos := by unfold World.iterPos; rw [h]
def okR (r : Nat) : Bool := decide (r = 95 ∨ r = 45 ∨ (48 ≤ r ∧ r ≤ 57) ∨ (65 ≤ r ∧ r ≤ 90))
def plainS (s : ByteArray) : Bool := (rns s s.size 0).all okR
set_option maxHeartbeats 4000000 in
set_option maxRecDepth 100000 in
theorem c_plain (s : ByteArray) (w : World) (hs : s.size ≤ 140737488351232) :
    Calls Try.prog 55 #[.string s] w fun e w' => e = .returned (.bool (plainS s)) ∧ Below w.heap.size w w' := by
  obtain ⟨U, hU⟩ : ∃ U, plainS s = U := ⟨_, rfl⟩
  have HU := Lib.hid hU
  rw [hU]
  clear hU
  go_enter Try.func55, Try.ntmps55
  go_wp2
  go_loopw [] (fun wr => ∃ (pos fuel : Nat), wr.heap[w.heap.size]? = some (.stringIter s pos) ∧ Aside0 (s.size ≤ pos + fuel ∧ (rns s fuel pos).all okR = plainS s) ∧ Aside0 (Below w.heap.size w wr)) (fun wr => s.size - wr.iterPos w.heap.size)
  case atStart => exact ⟨0, s.size, iter_new w s, ⟨by omega, rfl⟩, ⟨below_iter w s⟩⟩
  case round =>
    obtain ⟨pos, fuel, hit, hR, hB⟩ := hrel
    by_cases hp : pos < s.size
    · have hw1 := Lib.decode_width_pos s pos hp
      obtain ⟨f2, hf2, he2⟩ := rns_step s fuel pos hp hR.out.1
      have hnx := fun ty => Lib.run_next_any_at (P := Try.prog) wr w.heap.size s pos ty hit hp
      have HI0 := Lib.iterAt_heap wr w.heap.size s pos (pos + (Utf8.decode s pos).2) hit
      have HB0 := Lib.below_iterAt hB.out (Nat.le_refl _) s (pos + (Utf8.decode s pos).2)
      have HM0 := iter_less hw1 hit hp
      generalize hd : Utf8.decode s pos = d at *
      obtain ⟨r, wd⟩ := d
      simp only at *
      have hR1 := hR.out.2
      rw [he2, List.all_cons] at hR1
      have HBI := Aside0.mk HB0
      have HII := Aside0.mk HI0
      have HMM : Aside0 (s.size - (pos + wd) < s.size - wr.iterPos w.heap.size) := ⟨by rwa [iterPos_at HI0] at HM0⟩
      have hF := Aside0.mk hf2
      clear hd he2 hf2 hR HI0 HB0 HM0 hB
      have good : okR r = true → Aside0 ((rns s f2 (pos + wd)).all okR = plainS s) := fun h => ⟨by rw [← hR1, h]; rfl⟩
      have bad : okR r = false → U = false := fun h => by rw [← HU.out, ← hR1, h]; rfl
      clear hR1
      by_cases h1 : r = 95
      · subst h1
        have HG := good (by decide)
        clear good bad
        go_wp2
        go_roundw
        case rel => exact ⟨pos + wd, f2, HII.out, ⟨hF.out, HG.out⟩, HBI⟩
        case measure => rw [iterPos_at HII.out]; exact HMM.out
      by_cases h2 : r = 45
      · subst h2
        have HG := good (by decide)
        clear good bad
        go_wp2
        go_roundw
        case rel => exact ⟨pos + wd, f2, HII.out, ⟨hF.out, HG.out⟩, HBI⟩
        case measure => rw [iterPos_at HII.out]; exact HMM.out
      have t1 : ((r : Int) == 95) = false := beq_eq_false_iff_ne.2 (by omega)
      have t1' : ((r : Int) != 95) = true := bne_iff_ne.2 (by omega)
      have t2 : ((r : Int) == 45) = false := beq_eq_false_iff_ne.2 (by omega)
      have t2' : ((r : Int) != 45) = true := bne_iff_ne.2 (by omega)
      have hc : r < 48 ∨ (48 ≤ r ∧ r ≤ 57) ∨ (57 < r ∧ r < 65) ∨ (65 ≤ r ∧ r ≤ 90) ∨ 90 < r := by omega
      rcases hc with hc | hc | hc | hc | hc
      · obtain rfl := bad (by unfold okR; apply decide_eq_false; omega)
        have q1 : (r : Int) < 48 := by omega
        have q2 : (r : Int) < 65 := by omega
        clear good bad h1 h2 hc
        go_wp2
        go_ret
        exact ⟨rfl, HBI.out⟩
      · have HG := good (by unfold okR; apply decide_eq_true; omega)
        have q1 : ¬ (r : Int) < 48 := by omega
        have q2 : ¬ (57 : Int) < (r : Int) := by omega
        clear good bad h1 h2 hc
        go_wp2
        go_roundw
        case rel => exact ⟨pos + wd, f2, HII.out, ⟨hF.out, HG.out⟩, HBI⟩
        case measure => rw [iterPos_at HII.out]; exact HMM.out
      · obtain rfl := bad (by unfold okR; apply decide_eq_false; omega)
        have q1 : ¬ (r : Int) < 48 := by omega
        have q2 : (57 : Int) < (r : Int) := by omega
        have q3 : (r : Int) < 65 := by omega
        clear good bad h1 h2 hc
        go_wp2
        go_ret
        exact ⟨rfl, HBI.out⟩
      · have HG := good (by unfold okR; apply decide_eq_true; omega)
        have q1 : ¬ (r : Int) < 48 := by omega
        have q2 : (57 : Int) < (r : Int) := by omega
        have q3 : ¬ (r : Int) < 65 := by omega
        have q4 : ¬ (90 : Int) < (r : Int) := by omega
        clear good bad h1 h2 hc
        go_wp2
        go_roundw
        case rel => exact ⟨pos + wd, f2, HII.out, ⟨hF.out, HG.out⟩, HBI⟩
        case measure => rw [iterPos_at HII.out]; exact HMM.out
      · obtain rfl := bad (by unfold okR; apply decide_eq_false; omega)
        have q1 : ¬ (r : Int) < 48 := by omega
        have q2 : (57 : Int) < (r : Int) := by omega
        have q3 : ¬ (r : Int) < 65 := by omega
        have q4 : (90 : Int) < (r : Int) := by omega
        clear good bad h1 h2 hc
        go_wp2
        go_ret
        exact ⟨rfl, HBI.out⟩
    · have hnx := fun ty => Lib.run_next_end_at (P := Try.prog) wr w.heap.size s pos ty hit hp
      have hU : U = true := by
        have := hR.out.2
        rw [rns_end s fuel pos hp] at this
        rw [← HU.out, ← this]
        rfl
      subst hU
      clear hR
      go_wp2
      go_ret
      exact ⟨rfl, hB.out⟩
theorem str_ne {a b : ByteArray} (h : a ≠ b) : (a.toList == b.toList) = false := by
  rw [beq_eq_false_iff_ne, ByteArray.toList_eq, ByteArray.toList_eq]
  exact fun e => h (Go.WideShapes.bytes_inj e)
def prefS (s p : ByteArray) : Bool := decide (p.size ≤ s.size ∧ s.extract 0 p.size = p)
theorem sl_to (s : ByteArray) (j : Int) (h0 : 0 ≤ j) (h2 : j ≤ s.size) : ∀ W, (Instr.slice 9 (.string s) none (some (.int .i64 j)) none).run Try.prog W = .ok (.string (s.extract 0 j.toNat)) W := by
  intro W
  simp [go_sem, Try.underlying9, h0, h2]
set_option maxHeartbeats 1000000 in
theorem c_HasPrefix (s p : ByteArray) (w : World) (hs : s.size ≤ 140737488351232) (hp : p.size ≤ 140737488351232) :
    Calls Try.prog 56 #[.string s, .string p] w fun e w' => e = .returned (.bool (prefS s p)) ∧ w' = w := by
  have key : ∀ W, Calls Try.prog 68 #[.string s, .string p] W fun e w' => e = .returned (.bool (prefS s p)) ∧ w' = W := by
    intro W
    by_cases h1 : p.size ≤ s.size
    · have hsl := sl_to s (p.size : Int) (by omega) (by omega)
      rw [Int.toNat_natCast] at hsl
      have q1 : (p.size : Int) ≤ (s.size : Int) := by omega
      by_cases h2 : s.extract 0 p.size = p
      · rw [show prefS s p = true from decide_eq_true ⟨h1, h2⟩]
        rw [h2] at hsl
        clear h1 h2
        go_enter Try.func68, Try.ntmps68
        go_wp2
        go_ret
        exact ⟨rfl, rfl⟩
      · rw [show prefS s p = false from decide_eq_false (fun h => h2 h.2)]
        have te := str_ne h2
        generalize s.extract 0 p.size = x at *
        clear h1 h2
        go_enter Try.func68, Try.ntmps68
        go_wp2
        go_ret
        exact ⟨rfl, rfl⟩
    · rw [show prefS s p = false from decide_eq_false (fun h => h1 h.1)]
      have q1 : ¬ (p.size : Int) ≤ (s.size : Int) := by omega
      clear h1
      go_enter Try.func68, Try.ntmps68
      go_wp2
      go_ret
      exact ⟨rfl, rfl⟩
  have kk := Lib.hid key
  clear key
  go_enter Try.func56, Try.ntmps56
  go_wp2_with (first | (go_at_call 68; refine (kk.out _).mono ?_; rintro e v ⟨rfl, rfl⟩) | fail)
  go_ret
  exact ⟨rfl, rfl⟩
end Go.Proofs.Ytdnidnonjbjgmaa.Ext
