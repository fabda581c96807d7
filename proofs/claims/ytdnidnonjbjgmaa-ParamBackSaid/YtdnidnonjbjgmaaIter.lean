/- param.codes: the iterator over the codes of a kind: it hands out all of them in their order, or a beginning of them. -/
import Derived.RangeFuncNested
import Derived.RangeFuncBound
import Derived.RangeFuncCalls
import Derived.RangeFuncLeaves
import Derived.RangeFuncBox
import Derived.Shelf.Abstract
import Derived.Shelf.RegionOpen
import Derived.OwnWalkIn
import Derived.TacticsInMore
import Derived.LoopNIn
import Derived.LoopIn
import Derived.Test.YtdnidnonjbjgmaaPVals
namespace Go.Proofs.Ytdnidnonjbjgmaa.Ext
set_option linter.unusedVariables false
open Go.RowKit Go.Shelf Go.Proofs.YtdnidnonjbjgmaaW.PrintWords Go.Proofs.YtdnidnonjbjgmaaW.PrintLast Go.Proofs.YtdnidnonjbjgmaaW.PrintMore Go.Proofs.Ytdnidnonjbjgmaa.Spec
attribute [local go_sem] Oper.semAt_some

def lowL (kind : Int) (i : Nat) : List Int := ((List.range i).map Int.ofNat).filter (known kind)
def highL (kind first : Int) (i : Nat) : List Int := ((List.range i).map fun j => first + Int.ofNat j).filter (known kind)
def codesL (kind first : Int) : List Int := lowL kind 25 ++ highL kind first 64
theorem lowL_succ (kind : Int) (i : Nat) : lowL kind (i + 1) = lowL kind i ++ (if known kind i = true then [(i : Int)] else []) := by
  unfold lowL
  rw [List.range_succ, List.map_append, List.filter_append]
  congr 1
  simp [List.filter_cons]
theorem highL_succ (kind first : Int) (i : Nat) : highL kind first (i + 1) = highL kind first i ++ (if known kind (first + i) = true then [first + (i : Int)] else []) := by
  unfold highL
  rw [List.range_succ, List.map_append, List.filter_append]
  congr 1
  simp [List.filter_cons]
theorem lowL_len (kind : Int) (i : Nat) : (lowL kind i).length ≤ i := by
  unfold lowL
  exact Nat.le_trans (List.length_filter_le _ _) (by simp)
theorem highL_len (kind first : Int) (i : Nat) : (highL kind first i).length ≤ i := by
  unfold highL
  exact Nat.le_trans (List.length_filter_le _ _) (by simp)
theorem lowL_pre (kind : Int) (i : Nat) : ∀ m, lowL kind i <+: lowL kind (i + m)
  | 0 => ⟨[], by simp⟩
  | m + 1 => (lowL_pre kind i m).trans ⟨_, (lowL_succ kind (i + m)).symm⟩
theorem highL_pre (kind first : Int) (i : Nat) : ∀ m, highL kind first i <+: highL kind first (i + m)
  | 0 => ⟨[], by simp⟩
  | m + 1 => (highL_pre kind first i m).trans ⟨_, (highL_succ kind first (i + m)).symm⟩
theorem low_codes (kind first : Int) (i : Nat) (hi : i < 25) (hk : known kind i = true) : lowL kind i ++ [(i : Int)] <+: codesL kind first := by
  have e := lowL_succ kind i
  rw [if_pos hk] at e
  rw [← e]
  have := lowL_pre kind (i + 1) (24 - i)
  rw [show i + 1 + (24 - i) = 25 by omega] at this
  exact this.trans ⟨_, rfl⟩
theorem high_codes (kind first : Int) (i : Nat) (hi : i < 64) (hk : known kind (first + i) = true) : lowL kind 25 ++ (highL kind first i ++ [first + (i : Int)]) <+: codesL kind first := by
  have e := highL_succ kind first i
  rw [if_pos hk] at e
  rw [← e]
  have := highL_pre kind first (i + 1) (63 - i)
  rw [show i + 1 + (63 - i) = 64 by omega] at this
  obtain ⟨t, ht⟩ := this
  exact ⟨t, by unfold codesL; rw [← ht, List.append_assoc]⟩

set_option maxHeartbeats 4000000 in
set_option maxRecDepth 100000 in
theorem codes1_in (n : Nat) (hn : 1 ≤ n) (l Bk Bf n₀ : Nat) (kind first : Int) (h0 : 0 ≤ first) (h1 : first + 64 < 4294967296) (J Jx : List Int → World → Prop)
    (hJ : ∀ s W W', J s W → Below W.heap.size W W' → J s W')
    (hY : ∀ pre x W, J pre W → pre.length < 89 → YieldAt Fence.wide (n - 1) Try.prog l #[.int .u32 x] W fun e W' =>
      (e = .returned (.bool true) ∧ J (pre ++ [x]) W' ∧ Below n₀ W W') ∨ (e = .returned (.bool false) ∧ Jx (pre ++ [x]) W'))
    (W : World) (hBk : Bk < n₀) (hBf : Bf < n₀) (hck : W.cell? ⟨Bk, 0, none⟩ = some (.int .i64 kind)) (hcf : W.cell? ⟨Bf, 0, none⟩ = some (.int .u32 first)) (hJ0 : J [] W) :
    CallsIn Fence.wide n Try.prog 73 #[.func (.yield l) #[] #[], .pointer (some ⟨Bk, 0, none⟩), .pointer (some ⟨Bf, 0, none⟩)] W fun e W' => (∃ v, e = .returned v) ∧
      ((∃ ys, ys = codesL kind first ∧ J ys W') ∨ (∃ pre, pre <+: codesL kind first ∧ Jx pre W')) := by
  refine callsIn_of_wp Try.func73 rfl trivial ?_ rfl
  simp only [Try.ntmps73, List.size_toArray, List.length_cons, List.length_nil, Nat.reduceAdd, Nat.reduceSub, Array.replicate_succ, Array.replicate_zero, List.push_toArray, List.append_toArray, List.nil_append, List.cons_append]
  gi_wp2
  gi_loopw [7] (fun v7 wr => ∃ i : Nat, i ≤ 25 ∧ v7 = .int .u32 (i : Int) ∧ wr.cell? ⟨Bk, 0, none⟩ = some (.int .i64 kind) ∧ wr.cell? ⟨Bf, 0, none⟩ = some (.int .u32 first) ∧ Aside0 (J (lowL kind i) wr)) (fun v7 _ => 25 - (intOf v7).toNat)
  case atStart => exact ⟨0, by omega, rfl, hck, hcf, ⟨hJ0⟩⟩
  case round =>
    obtain ⟨i, hi, rfl, hck1, hcf1, HJ1⟩ := hrel
    by_cases hlt : i < 25
    · have hkc := Lib.hid (fun W => c_known kind (i : Int) W (by omega) (by omega))
      have hlen : (lowL kind i).length < 89 := by have := lowL_len kind i; omega
      by_cases hkn : known kind (i : Int) = true
      · rw [hkn] at hkc
        have HK := Aside0.mk hkn
        have hpr := Aside0.mk (low_codes kind first i hlt hkn)
        clear hkn
        gi_wp2_with (first
          | (refine ⟨trivial, ?_⟩
             gi_at_call 60
             refine (callsIn_wide.2 (hkc.out _)).mono ?_
             rintro e W2 ⟨rfl, hb2⟩
             have HJ2 := Aside0.mk (hJ _ _ _ HJ1.out hb2)
             have hck2 := pw_cell_below hb2 hck1
             have hcf2 := pw_cell_below hb2 hcf1
             obtain ⟨fn, tmps, assign, body, hy, hR⟩ := hY (lowL kind i) ((i : Int)) W2 HJ2.out hlen
             clear hb2)
          | fail)
        refine hR.mono ?_
        rintro e W3 (⟨rfl, hJ3, hk3⟩ | ⟨rfl, hJx3⟩)
        · have hck3 : W3.cell? ⟨Bk, 0, none⟩ = some (.int .i64 kind) := (hk3.cell (p := ⟨Bk, 0, none⟩) hBk).trans hck2
          have hcf3 : W3.cell? ⟨Bf, 0, none⟩ = some (.int .u32 first) := (hk3.cell (p := ⟨Bf, 0, none⟩) hBf).trans hcf2
          have HJ3 : Aside0 (J (lowL kind (i + 1)) W3) := ⟨by have hkn := HK.out; rw [lowL_succ kind i, if_pos hkn]; exact hJ3⟩
          clear hJ3 hk3 hck1 hcf1 hck2 hcf2 hy hR
          gi_wp2
          go_roundw
          case rel => exact ⟨i + 1, by omega, by go_num, hck3, hcf3, HJ3⟩
          case measure => simp [intOf]; omega
        · gi_wp2
          refine bodyPost_ret (results_none rfl _ _ _) rfl ?_
          exact ⟨⟨_, rfl⟩, .inr ⟨_, hpr.out, by first | exact hJx3 | (rw [← List.append_assoc]; exact hJx3)⟩⟩
      · have hkf : known kind (i : Int) = false := by simpa using hkn
        rw [hkf] at hkc
        have HJn : Aside0 (lowL kind (i + 1) = lowL kind i) := ⟨by rw [lowL_succ kind i, if_neg hkn, List.append_nil]⟩
        clear hkn
        gi_wp2_with (first
          | (refine ⟨trivial, ?_⟩
             gi_at_call 60
             refine (callsIn_wide.2 (hkc.out _)).mono ?_
             rintro e W2 ⟨rfl, hb2⟩
             have HJ2 := Aside0.mk (hJ _ _ _ HJ1.out hb2)
             have hck2 := pw_cell_below hb2 hck1
             have hcf2 := pw_cell_below hb2 hcf1
             clear hb2)
          | fail)
        refine ⟨fun _ h => (by cases h), ?_⟩
        gi_wp2
        go_roundw
        case rel => exact ⟨i + 1, by omega, by go_num, hck2, hcf2, ⟨by rw [HJn.out]; exact HJ2.out⟩⟩
        case measure => simp [intOf]; omega
    · obtain rfl : i = 25 := by omega
      gi_wp2
      gi_loopw [20] (fun v20 wr => ∃ i : Nat, i ≤ 64 ∧ v20 = .int .u32 (i : Int) ∧ wr.cell? ⟨Bk, 0, none⟩ = some (.int .i64 kind) ∧ wr.cell? ⟨Bf, 0, none⟩ = some (.int .u32 first) ∧ Aside0 (J (lowL kind 25 ++ highL kind first i) wr)) (fun v20 _ => 64 - (intOf v20).toNat)
      case atStart => exact ⟨0, by omega, rfl, hck1, hcf1, ⟨by have := HJ1.out; simpa [highL] using this⟩⟩
      case round =>
        clear HJ1 hck1 hcf1
        obtain ⟨i, hi, rfl, hck1, hcf1, HJ1⟩ := hrel
        by_cases hlt : i < 64
        · have hkc := Lib.hid (fun W => c_known kind (first + (i : Int)) W (by omega) (by omega))
          have hlen : (lowL kind 25 ++ highL kind first i).length < 89 := by have := lowL_len kind 25; have := highL_len kind first i; rw [List.length_append]; omega
          by_cases hkn : known kind (first + (i : Int)) = true
          · rw [hkn] at hkc
            have HK := Aside0.mk hkn
            have hpr := Aside0.mk (high_codes kind first i hlt hkn)
            clear hkn
            gi_wp2_with (first
              | (refine ⟨trivial, ?_⟩
                 gi_at_call 60
                 refine (callsIn_wide.2 (hkc.out _)).mono ?_
                 rintro e W2 ⟨rfl, hb2⟩
                 have HJ2 := Aside0.mk (hJ _ _ _ HJ1.out hb2)
                 have hck2 := pw_cell_below hb2 hck1
                 have hcf2 := pw_cell_below hb2 hcf1
                 obtain ⟨fn, tmps, assign, body, hy, hR⟩ := hY (lowL kind 25 ++ highL kind first i) ((first + (i : Int))) W2 HJ2.out hlen
                 clear hb2)
              | fail)
            refine hR.mono ?_
            rintro e W3 (⟨rfl, hJ3, hk3⟩ | ⟨rfl, hJx3⟩)
            · have hck3 : W3.cell? ⟨Bk, 0, none⟩ = some (.int .i64 kind) := (hk3.cell (p := ⟨Bk, 0, none⟩) hBk).trans hck2
              have hcf3 : W3.cell? ⟨Bf, 0, none⟩ = some (.int .u32 first) := (hk3.cell (p := ⟨Bf, 0, none⟩) hBf).trans hcf2
              have HJ3 : Aside0 (J (lowL kind 25 ++ highL kind first (i + 1)) W3) := ⟨by have hkn := HK.out; rw [highL_succ kind first i, if_pos hkn, ← List.append_assoc]; exact hJ3⟩
              clear hJ3 hk3 hck1 hcf1 hck2 hcf2 hy hR
              gi_wp2
              go_roundw
              case rel =>
                refine ⟨_, _, _, _, _, _, _, _, _, _, _, _, _, _, _, _, _, _, ?_, rfl⟩
                exact ⟨i + 1, by omega, by go_num, hck3, hcf3, HJ3⟩
              case measure => simp [intOf]; omega
            · gi_wp2
              refine bodyPost_ret (results_none rfl _ _ _) rfl ?_
              exact ⟨⟨_, rfl⟩, .inr ⟨_, hpr.out, by first | exact hJx3 | (rw [← List.append_assoc]; exact hJx3)⟩⟩
          · have hkf : known kind (first + (i : Int)) = false := by simpa using hkn
            rw [hkf] at hkc
            have HJn : Aside0 (lowL kind 25 ++ highL kind first (i + 1) = lowL kind 25 ++ highL kind first i) := ⟨by rw [highL_succ kind first i, if_neg hkn, List.append_nil]⟩
            clear hkn
            gi_wp2_with (first
              | (refine ⟨trivial, ?_⟩
                 gi_at_call 60
                 refine (callsIn_wide.2 (hkc.out _)).mono ?_
                 rintro e W2 ⟨rfl, hb2⟩
                 have HJ2 := Aside0.mk (hJ _ _ _ HJ1.out hb2)
                 have hck2 := pw_cell_below hb2 hck1
                 have hcf2 := pw_cell_below hb2 hcf1
                 clear hb2)
              | fail)
            refine ⟨fun _ h => (by cases h), ?_⟩
            gi_wp2
            go_roundw
            case rel =>
              refine ⟨_, _, _, _, _, _, _, _, _, _, _, _, _, _, _, _, _, _, ?_, rfl⟩
              exact ⟨i + 1, by omega, by go_num, hck2, hcf2, ⟨by rw [HJn.out]; exact HJ2.out⟩⟩
            case measure => simp [intOf]; omega
        · obtain rfl : i = 64 := by omega
          gi_wp2
          go_end0
          exact ⟨⟨_, rfl⟩, .inl ⟨_, rfl, HJ1.out⟩⟩

theorem codes_stops (n : Nat) (hn : 1 ≤ n) (Bk Bf n₀ : Nat) (kind first : Int) (h0 : 0 ≤ first) (h1 : first + 64 < 4294967296) (w : World) (hBk : Bk < n₀) (hBf : Bf < n₀) (hn₀ : n₀ ≤ w.heap.size)
    (hck : w.cell? ⟨Bk, 0, none⟩ = some (.int .i64 kind)) (hcf : w.cell? ⟨Bf, 0, none⟩ = some (.int .u32 first)) :
    SeqStopsK Fence.wide n Try.prog 73 #[.pointer (some ⟨Bk, 0, none⟩), .pointer (some ⟨Bf, 0, none⟩)] (fun x : Int => #[Value.int .u32 x]) (Below n₀) (fun ys => ys = codesL kind first) (fun pre => pre <+: codesL kind first) 89 w := fun l J Jx W hW hJ _ hY hJ0 =>
  codes1_in n hn l Bk Bf n₀ kind first h0 h1 J Jx (fun s A B h hb => hJ s A B none h (grown_of_below hb none) (fun r e => by cases e)) hY W hBk hBf ((hW.cell (p := ⟨Bk, 0, none⟩) (by show Bk < _; omega)).trans hck) ((hW.cell (p := ⟨Bf, 0, none⟩) (by show Bf < _; omega)).trans hcf) hJ0
set_option maxHeartbeats 1000000 in
theorem c_codes (kind first : Int) (w : World) :
    Calls Try.prog 67 #[.int .i64 kind, .int .u32 first] w fun e w' => e = .returned (.func (.func 73) #[] #[.pointer (some ⟨w.heap.size, 0, none⟩), .pointer (some ⟨w.heap.size + 1, 0, none⟩)]) ∧ w' = (w.alloc (.cells #[.int .i64 kind] 3)).alloc (.cells #[.int .u32 first] 22) := by
  go_enter Try.func67, Try.ntmps67
  go_wp2
  go_ret
  exact ⟨rfl, rfl⟩
set_option maxHeartbeats 1000000 in
theorem c_OtsCodes (w : World) :
    Calls Try.prog 46 #[] w fun e w' => e = .returned (.func (.func 73) #[] #[.pointer (some ⟨w.heap.size, 0, none⟩), .pointer (some ⟨w.heap.size + 1, 0, none⟩)]) ∧ w' = (w.alloc (.cells #[.int .i64 1] 3)).alloc (.cells #[.int .u32 4026531840] 22) := by
  go_enter Try.func46, Try.ntmps46
  go_wp2_with (first | (go_at_call 67; refine (c_codes _ _ _).mono ?_; rintro e v ⟨rfl, rfl⟩) | fail)
  go_ret
  exact ⟨rfl, rfl⟩
end Go.Proofs.Ytdnidnonjbjgmaa.Ext
