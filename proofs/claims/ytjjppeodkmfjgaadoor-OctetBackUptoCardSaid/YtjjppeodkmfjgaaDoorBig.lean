/- octet.big: a number in so many bytes, at most eight, the highest first. -/
import Derived.Test.YtjjppeodkmfjgaaDoorRunes
namespace Go.Proofs.YtjjppeodkmfjgaaDoor.Ext
set_option linter.unusedVariables false
open Go.RowKit Go.Proofs.YtjjppeodkmfjgaaDoorW.PrintWords Go.Proofs.YtjjppeodkmfjgaaDoorW.PrintLast Go.Proofs.YtjjppeodkmfjgaaDoorW.PrintMore

theorem info_u8 : (Tryd.prog.info? 5).map (fun i => (i.zero, i.size, i.bytes)) = some (some (.int .u8 0), 1, 1) := by kernel_rfl
def bigE (a n j : Nat) : Int := ((a / 2 ^ (8 * (n - 1 - j)) % 256 : Nat) : Int)
def bigK (a n k : Nat) : List Int := (List.range n).map fun j => if n - 1 - j < k then bigE a n j else 0
theorem bigK_zero (a n : Nat) : bigK a n 0 = List.replicate n 0 := by
  apply List.ext_getElem <;> simp [bigK]
theorem bigK_len (a n k : Nat) : (bigK a n k).length = n := by simp [bigK]
theorem bigK_step (a n k : Nat) (hk : k < n) : (bigK a n k).set (n - 1 - k) (bigE a n (n - 1 - k)) = bigK a n (k + 1) := by
  apply List.ext_getElem
  · simp [bigK]
  · intro i h1 h2
    have hi : i < n := by simpa [bigK] using h2
    rw [List.getElem_set]
    simp only [bigK, List.getElem_map, List.getElem_range]
    by_cases e : n - 1 - k = i
    · subst e; rw [if_pos rfl, if_pos (by omega)]
    · rw [if_neg e]
      by_cases h : n - 1 - i < k
      · rw [if_pos h, if_pos (by omega)]
      · rw [if_neg h, if_neg (by omega)]

set_option maxHeartbeats 2000000 in
set_option maxRecDepth 100000 in
theorem big_walk (a n : Nat) (w : World) (ha : a < 18446744073709551616) (hn : n ≤ 8) :
    Calls Tryd.prog 50 #[.int .u64 a, .int .i64 n] w fun e w' => ∃ v : Value, e = .returned v ∧ Kd.R (Kd.int .u8) 5 w' w.heap.size (fun _ => True) v (bigK a n n) ∧ Below w.heap.size w w' := by
  have hn0 : (0 : Int) ≤ (n : Int) := by omega
  go_enter Tryd.func50, Tryd.ntmps50
  go_wp2_with (first
    | ((with_reducible refine gate_dst (N := 8) rfl ?_)
       refine Kd.R_make (Kd.int .u8) _ 5 rfl (N := 8) rfl 22 _ _ rfl (n : Int) rfl rfl Tryd.underlying22 (.int .u8 0) 1 info_u8 rfl (by decide) (by omega) 0 (ok := fun _ => True) (okp := fun _ => True) rfl (fun _ hk => hk) trivial hn0 (by simp; omega) (Below.refl _ _) (Nat.le_refl _) ?_
       intro v1 w1 ho hb hg_ hnew_
       clear hg_ hnew_
       rw [Int.toNat_natCast, ← bigK_zero a n] at ho
       have hlen := bigK_len a n 0
       obtain ⟨A1, c1, e1⟩ := Kd.R_slice ho
       rw [hlen] at e1
       subst e1
       have HO := Aside0.mk ho
       have HB := Aside0.mk hb
       clear ho hb hlen))
  go_loopw [11] (fun v wr => ∃ k : Nat, k ≤ n ∧ v = .int .i64 k ∧ Aside0 (Kd.R (Kd.int .u8) 5 wr w.heap.size (fun _ => True) (.slice A1 n c1) (bigK a n k)) ∧ Aside0 (Below w.heap.size w wr)) (fun v _ => n - (intOf v).toNat)
  case atStart => exact ⟨0, by omega, rfl, HO, HB⟩
  case round =>
    clear HO HB
    obtain ⟨k, hk, rfl, HO, HB⟩ := hrel
    by_cases hlt : k < n
    · obtain ⟨go, co, eo, gb, gl, cl, HG⟩ := Kd.R_form HO.out (by rw [bigK_len]; omega)
      rw [bigK_len] at eo
      cases eo
      have hi0 : (0 : Int) ≤ (n : Int) - 1 - k := by omega
      have hi1 : (n : Int) - 1 - k < (n : Int) := by omega
      have et : ((n : Int) - 1 - k).toNat = n - 1 - k := by omega
      obtain ⟨hx, hf⟩ := Kd.R_celln 0 HO.out ((n : Int) - 1 - k) hi0 hi1
      have hp := (Kd.R_putg HO.out ((n : Int) - 1 - k) ((a : Int) / 2 ^ (8 * k) % 256)).1
      rw [et] at hx hf hp
      have hv : (a : Int) / 2 ^ (8 * k) % 256 = bigE a n (n - 1 - k) := by
        unfold bigE
        rw [show n - 1 - (n - 1 - k) = k by omega]
        push_cast
        rfl
      have hp2 : Kd.R (Kd.int .u8) 5 (wr.setCell ⟨go, n - 1 - k, none⟩ (.int .u8 ((a : Int) / 2 ^ (8 * k) % 256))) w.heap.size (fun _ => True) (.slice (some ⟨go, 0, none⟩) n c1) (bigK a n (k + 1)) := by
        rw [← bigK_step a n k hlt, ← hv]
        exact hp
      have HP := Aside0.mk hp2
      have HQ := Aside0.mk (below_set HB.out gb (v := .int .u8 ((a : Int) / 2 ^ (8 * k) % 256)) (j := n - 1 - k))
      clear HG gl hv hp hp2 et
      go_wp2
      go_roundw
      case rel => exact ⟨k + 1, by omega, by go_num, HP, HQ⟩
      case measure => simp [intOf]; omega
    · obtain rfl : k = n := by omega
      go_wp2
      go_ret
      exact ⟨_, rfl, HO.out, HB.out⟩
def octet_big.f (a0 a1 : Int) : Option (List Int) := if 0 ≤ a0 ∧ a0 < 18446744073709551616 ∧ 0 ≤ a1 ∧ a1 ≤ 8 then some (bigK a0.toNat a1.toNat a1.toNat) else none
theorem octet_big.calls (a0 a1 : Int) (r : List Int) (w : World) (h : octet_big.f a0 a1 = some r) :
    Calls Tryd.prog 50 #[.int .u64 a0, .int .i64 a1] w fun e w' => ∃ v0_ : Value, e = .returned (v0_) ∧ Kd.R (Kd.int .u8) 5 w' w.heap.size (fun _ => True) v0_ r ∧ Below w.heap.size w w' := by
  unfold octet_big.f at h
  by_cases h0 : 0 ≤ a0 ∧ a0 < 18446744073709551616 ∧ 0 ≤ a1 ∧ a1 ≤ 8
  · rw [if_pos h0] at h
    obtain rfl := Option.some.inj h
    obtain ⟨n, rfl⟩ := Int.eq_ofNat_of_zero_le h0.1
    obtain ⟨m, rfl⟩ := Int.eq_ofNat_of_zero_le h0.2.2.1
    rw [Int.toNat_natCast, Int.toNat_natCast]
    exact big_walk n m w (by omega) (by omega)
  · rw [if_neg h0] at h; cases h
end Go.Proofs.YtjjppeodkmfjgaaDoor.Ext
