/- octet.Little. -/
import Derived.Test.YtjjppeodkmfjgaaDoorNums
namespace Go.Proofs.YtjjppeodkmfjgaaDoor.Ext
set_option linter.unusedVariables false
open Go.RowKit Go.Proofs.YtjjppeodkmfjgaaDoorW.PrintWords Go.Proofs.YtjjppeodkmfjgaaDoorW.PrintLast Go.Proofs.YtjjppeodkmfjgaaDoorW.PrintMore

def litE (a j : Nat) : Int := ((a / 2 ^ (8 * j) % 256 : Nat) : Int)
theorem lit_rev (a n : Nat) : fillS (litE a) n n = (bigK a n n).reverse := by
  apply List.ext_getElem
  · rw [fillS_len, List.length_reverse, bigK_len]
  · intro j h1 h2
    rw [fillS_len] at h1
    rw [List.getElem_reverse]
    simp only [fillS, bigK, List.getElem_map, List.getElem_range, List.length_map, List.length_range]
    rw [if_pos h1, if_pos (by omega)]
    unfold bigE litE
    rw [show n - 1 - (n - 1 - j) = j by omega]
set_option maxHeartbeats 2000000 in
set_option maxRecDepth 100000 in
theorem little_walk (a : Nat) (size : Int) (w : World) (ha : a < 18446744073709551616) :
    Calls Tryd.prog 29 #[.int .u64 a, .int .i64 size] w fun e w' => ∃ v : Value, e = .returned (.tuple #[v, .int .i64 (putS a size).2]) ∧ Kd.R (Kd.int .u8) 5 w' w.heap.size (fun _ => True) v (putS a size).1.reverse ∧ Below w.heap.size w w' := by
  have cf := Lib.hid (fun W => P.octet_fits.calls 1 a size _ W (fits_f a size ha))
  by_cases h0 : fitS a size = 0
  · have hput : putS a size = (bigK a size.toNat size.toNat, 0) := by unfold putS; rw [if_pos h0]
    rw [hput]
    have hs : 1 ≤ size ∧ size ≤ 8 := by
      unfold fitS at h0
      by_cases hc : size < 1 ∨ 8 < size
      · rw [if_pos hc] at h0; omega
      · omega
    rw [h0] at cf
    obtain ⟨n, rfl⟩ := Int.eq_ofNat_of_zero_le (show 0 ≤ size by omega)
    have hn : n ≤ 8 := by omega
    have hn0 : (0 : Int) ≤ (n : Int) := by omega
    rw [Int.toNat_natCast]
    simp only
    rw [← lit_rev]
    clear h0 hput hs
    go_enter Tryd.func29, Tryd.ntmps29
    go_wp2_with (first
      | (go_at_call 49
         refine (cf.out _).mono ?_
         rintro e v0 ⟨rfl, hd0⟩
         have HD := Aside0.mk hd0.below
         clear hd0)
      | ((with_reducible refine gate_dst (N := 16) rfl ?_)
         refine Kd.R_make (Kd.int .u8) _ 5 rfl (N := 16) rfl 22 _ _ rfl (n : Int) rfl rfl Tryd.underlying22 (.int .u8 0) 1 info_u8 rfl (by decide) (by omega) 0 (ok := fun _ => True) (okp := fun _ => True) rfl (fun _ hk => hk) trivial hn0 (by simp; omega) (HD.out) (HD.out.size) ?_
         intro v1 w1 ho hb hg_ hnew_
         clear hg_ hnew_
         rw [Int.toNat_natCast, ← fillS_zero (litE a) n] at ho
         have hlen := fillS_len (litE a) n 0
         obtain ⟨A1, c1, e1⟩ := Kd.R_slice ho
         rw [hlen] at e1
         subst e1
         have HO := Aside0.mk ho
         have HB := Aside0.mk hb
         clear ho hb hlen)
      | fail)
    go_loopw [19] (fun v wr => ∃ k : Nat, k ≤ n ∧ v = .int .i64 k ∧ Aside0 (Kd.R (Kd.int .u8) 5 wr w.heap.size (fun _ => True) (.slice A1 n c1) (fillS (litE a) n k)) ∧ Aside0 (Below w.heap.size w wr)) (fun v _ => n - (intOf v).toNat)
    case atStart => exact ⟨0, by omega, rfl, HO, HB⟩
    case round =>
      clear HO HB
      obtain ⟨k, hk, rfl, HO, HB⟩ := hrel
      by_cases hlt : k < n
      · obtain ⟨go, co, eo, gb, gl, cl, HG⟩ := Kd.R_form HO.out (by rw [fillS_len]; omega)
        rw [fillS_len] at eo
        cases eo
        have hi0 : (0 : Int) ≤ (k : Int) := by omega
        have hi1 : (k : Int) < (n : Int) := by omega
        obtain ⟨hx, hf⟩ := Kd.R_celln 0 HO.out (k : Int) hi0 hi1
        have hp := (Kd.R_putg HO.out (k : Int) ((a : Int) / 2 ^ (8 * k) % 256)).1
        rw [Int.toNat_natCast] at hx hf hp
        have hv : (a : Int) / 2 ^ (8 * k) % 256 = litE a k := by
          unfold litE
          push_cast
          rfl
        have hp2 : Kd.R (Kd.int .u8) 5 (wr.setCell ⟨go, k, none⟩ (.int .u8 ((a : Int) / 2 ^ (8 * k) % 256))) w.heap.size (fun _ => True) (.slice (some ⟨go, 0, none⟩) n c1) (fillS (litE a) n (k + 1)) := by
          rw [← fillS_step (litE a) n k, ← hv]
          exact hp
        have HP := Aside0.mk hp2
        have HQ := Aside0.mk (below_set HB.out gb (v := .int .u8 ((a : Int) / 2 ^ (8 * k) % 256)) (j := k))
        clear HG gl hv hp hp2
        go_wp2
        go_roundw
        case rel => exact ⟨k + 1, by omega, by go_num, HP, HQ⟩
        case measure => simp [intOf]; omega
      · obtain rfl : k = n := by omega
        go_wp2
        exact bodyPost_ret (v := .tuple #[.slice A1 k c1, .int .i64 0]) (by simp [results, Tryd.results29, go_sem]) rfl ⟨_, rfl, HO.out, HB.out⟩
  · have hput : putS a size = ([], fitS a size) := by unfold putS; rw [if_neg h0]
    rw [hput]
    simp only [List.reverse_nil]
    generalize fitS a size = code at *
    have t0 : (code == 0) = false := beq_eq_false_iff_ne.2 h0
    have t1 : (code != 0) = true := bne_iff_ne.2 h0
    go_enter Tryd.func29, Tryd.ntmps29
    go_wp2_with (first
      | (go_at_call 49
         refine (cf.out _).mono ?_
         rintro e v0 ⟨rfl, hd0⟩
         have HD := Aside0.mk hd0.below
         clear hd0)
      | fail)
    exact bodyPost_ret (v := .tuple #[.slice none 0 0, .int .i64 code]) (by simp [results, Tryd.results29, go_sem]) rfl ⟨_, rfl, Kd.R_nil _ _ _ _ _, HD.out⟩
end Go.Proofs.YtjjppeodkmfjgaaDoor.Ext
