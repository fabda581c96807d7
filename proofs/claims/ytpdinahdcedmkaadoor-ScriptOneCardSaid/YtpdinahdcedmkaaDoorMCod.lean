import Derived.RangeFuncNested
import Derived.RangeFuncBound
import Derived.RangeFuncCalls
import Derived.RangeFuncLeaves
import Derived.RangeFuncBox
import Derived.Shelf.Abstract
import Derived.Shelf.RegionOpen
import Derived.OwnWalkIn
import Derived.TacticsInMore
import Derived.LoopNIn
import Derived.LoopIn
import Derived.Test.YtpdinahdcedmkaaDoorPVals
import Derived.Maps.AppendAt
import Derived.Test.YtpdinahdcedmkaaDoorMOts
import Derived.Test.YtpdinahdcedmkaaDoorMPName
import Derived.Lib.OthersKept
import Derived.Lib.RuneCount
import Derived.Lib.Hide
import Derived.Deep.RegionWith
/- param.codes: the iterator over the codes of a kind: it hands out all of them in their order, or a beginning of them. -/
namespace Go.Proofs.YtpdinahdcedmkaaDoor.ExtP
open Go.Proofs.YtpdinahdcedmkaaDoor.Ext
set_option linter.unusedVariables false
open Go.RowKit Go.Shelf Go.Proofs.YtpdinahdcedmkaaDoorW.PrintWords Go.Proofs.YtpdinahdcedmkaaDoorW.PrintLast Go.Proofs.YtpdinahdcedmkaaDoorW.PrintMore Go.Proofs.YtpdinahdcedmkaaDoor.Spec
attribute [local go_sem] Oper.semAt_some

def lowL (kind : Int) (i : Nat) : List Int := ((List.range i).map Int.ofNat).filter (known kind)
def highL (kind first : Int) (i : Nat) : List Int := ((List.range i).map fun j => first + Int.ofNat j).filter (known kind)
def codesL (kind first : Int) : List Int := lowL kind 25 ++ highL kind first 64
theorem lowL_succ (kind : Int) (i : Nat) : lowL kind (i + 1) = lowL kind i ++ (if known kind i = true then [(i : Int)] else []) := by
  unfold lowL
  rw [List.range_succ, List.map_append, List.filter_append]
  congr 1
  simp [List.filter_cons]
theorem highL_succ (kind first : Int) (i : Nat) : highL kind first (i + 1) = highL kind first i ++ (if known kind (first + i) = true then [first + (i : Int)] else []) := by
  unfold highL
  rw [List.range_succ, List.map_append, List.filter_append]
  congr 1
  simp [List.filter_cons]
theorem lowL_len (kind : Int) (i : Nat) : (lowL kind i).length ≤ i := by
  unfold lowL
  exact Nat.le_trans (List.length_filter_le _ _) (by simp)
theorem highL_len (kind first : Int) (i : Nat) : (highL kind first i).length ≤ i := by
  unfold highL
  exact Nat.le_trans (List.length_filter_le _ _) (by simp)
theorem lowL_pre (kind : Int) (i : Nat) : ∀ m, lowL kind i <+: lowL kind (i + m)
  | 0 => ⟨[], by simp⟩
  | m + 1 => (lowL_pre kind i m).trans ⟨_, (lowL_succ kind (i + m)).symm⟩
theorem highL_pre (kind first : Int) (i : Nat) : ∀ m, highL kind first i <+: highL kind first (i + m)
  | 0 => ⟨[], by simp⟩
  | m + 1 => (highL_pre kind first i m).trans ⟨_, (highL_succ kind first (i + m)).symm⟩
theorem low_codes (kind first : Int) (i : Nat) (hi : i < 25) (hk : known kind i = true) : lowL kind i ++ [(i : Int)] <+: codesL kind first := by
  have e := lowL_succ kind i
  rw [if_pos hk] at e
  rw [← e]
  have := lowL_pre kind (i + 1) (24 - i)
  rw [show i + 1 + (24 - i) = 25 by omega] at this
  exact this.trans ⟨_, rfl⟩
theorem high_codes (kind first : Int) (i : Nat) (hi : i < 64) (hk : known kind (first + i) = true) : lowL kind 25 ++ (highL kind first i ++ [first + (i : Int)]) <+: codesL kind first := by
  have e := highL_succ kind first i
  rw [if_pos hk] at e
  rw [← e]
  have := highL_pre kind first (i + 1) (63 - i)
  rw [show i + 1 + (63 - i) = 64 by omega] at this
  obtain ⟨t, ht⟩ := this
  exact ⟨t, by unfold codesL; rw [← ht, List.append_assoc]⟩

set_option maxHeartbeats 4000000 in
set_option maxRecDepth 100000 in
theorem codes1_in (n : Nat) (hn : 1 ≤ n) (l Bk Bf n₀ : Nat) (kind first : Int) (h0 : 0 ≤ first) (h1 : first + 64 < 4294967296) (J Jx : List Int → World → Prop)
    (hJ : ∀ s W W', J s W → Below W.heap.size W W' → J s W')
    (hY : ∀ pre x W, J pre W → pre.length < 89 → YieldAt Fence.wide (n - 1) Tryd.prog l #[.int .u32 x] W fun e W' =>
      (e = .returned (.bool true) ∧ J (pre ++ [x]) W' ∧ Below n₀ W W') ∨ (e = .returned (.bool false) ∧ Jx (pre ++ [x]) W'))
    (W : World) (hBk : Bk < n₀) (hBf : Bf < n₀) (hck : W.cell? ⟨Bk, 0, none⟩ = some (.int .i64 kind)) (hcf : W.cell? ⟨Bf, 0, none⟩ = some (.int .u32 first)) (hJ0 : J [] W) :
    CallsIn Fence.wide n Tryd.prog 100 #[.func (.yield l) #[] #[], .pointer (some ⟨Bk, 0, none⟩), .pointer (some ⟨Bf, 0, none⟩)] W fun e W' => (∃ v, e = .returned v) ∧
      ((∃ ys, ys = codesL kind first ∧ J ys W') ∨ (∃ pre, pre <+: codesL kind first ∧ Jx pre W')) := by
  refine callsIn_of_wp Tryd.func100 rfl trivial ?_ rfl
  simp only [Tryd.ntmps100, List.size_toArray, List.length_cons, List.length_nil, Nat.reduceAdd, Nat.reduceSub, Array.replicate_succ, Array.replicate_zero, List.push_toArray, List.append_toArray, List.nil_append, List.cons_append]
  gi_wp2
  gi_loopw [7] (fun v7 wr => ∃ i : Nat, i ≤ 25 ∧ v7 = .int .u32 (i : Int) ∧ wr.cell? ⟨Bk, 0, none⟩ = some (.int .i64 kind) ∧ wr.cell? ⟨Bf, 0, none⟩ = some (.int .u32 first) ∧ Aside0 (J (lowL kind i) wr)) (fun v7 _ => 25 - (intOf v7).toNat)
  case atStart => exact ⟨0, by omega, rfl, hck, hcf, ⟨hJ0⟩⟩
  case round =>
    obtain ⟨i, hi, rfl, hck1, hcf1, HJ1⟩ := hrel
    by_cases hlt : i < 25
    · have hkc := Lib.hid (fun W => c_known kind (i : Int) W (by omega) (by omega))
      have hlen : (lowL kind i).length < 89 := by have := lowL_len kind i; omega
      by_cases hkn : known kind (i : Int) = true
      · rw [hkn] at hkc
        have HK := Aside0.mk hkn
        have hpr := Aside0.mk (low_codes kind first i hlt hkn)
        clear hkn
        gi_wp2_with (first
          | (refine ⟨trivial, ?_⟩
             gi_at_call 90
             refine (callsIn_wide.2 (hkc.out _)).mono ?_
             rintro e W2 ⟨rfl, hb2⟩
             have HJ2 := Aside0.mk (hJ _ _ _ HJ1.out hb2)
             have hck2 := pw_cell_below hb2 hck1
             have hcf2 := pw_cell_below hb2 hcf1
             obtain ⟨fn, tmps, assign, body, hy, hR⟩ := hY (lowL kind i) ((i : Int)) W2 HJ2.out hlen
             clear hb2)
          | fail)
        refine hR.mono ?_
        rintro e W3 (⟨rfl, hJ3, hk3⟩ | ⟨rfl, hJx3⟩)
        · have hck3 : W3.cell? ⟨Bk, 0, none⟩ = some (.int .i64 kind) := (hk3.cell (p := ⟨Bk, 0, none⟩) hBk).trans hck2
          have hcf3 : W3.cell? ⟨Bf, 0, none⟩ = some (.int .u32 first) := (hk3.cell (p := ⟨Bf, 0, none⟩) hBf).trans hcf2
          have HJ3 : Aside0 (J (lowL kind (i + 1)) W3) := ⟨by have hkn := HK.out; rw [lowL_succ kind i, if_pos hkn]; exact hJ3⟩
          clear hJ3 hk3 hck1 hcf1 hck2 hcf2 hy hR
          gi_wp2
          go_roundw
          case rel => exact ⟨i + 1, by omega, by go_num, hck3, hcf3, HJ3⟩
          case measure => simp [intOf]; omega
        · gi_wp2
          refine bodyPost_ret (results_none rfl _ _ _) rfl ?_
          exact ⟨⟨_, rfl⟩, .inr ⟨_, hpr.out, by first | exact hJx3 | (rw [← List.append_assoc]; exact hJx3)⟩⟩
      · have hkf : known kind (i : Int) = false := by simpa using hkn
        rw [hkf] at hkc
        have HJn : Aside0 (lowL kind (i + 1) = lowL kind i) := ⟨by rw [lowL_succ kind i, if_neg hkn, List.append_nil]⟩
        clear hkn
        gi_wp2_with (first
          | (refine ⟨trivial, ?_⟩
             gi_at_call 90
             refine (callsIn_wide.2 (hkc.out _)).mono ?_
             rintro e W2 ⟨rfl, hb2⟩
             have HJ2 := Aside0.mk (hJ _ _ _ HJ1.out hb2)
             have hck2 := pw_cell_below hb2 hck1
             have hcf2 := pw_cell_below hb2 hcf1
             clear hb2)
          | fail)
        refine ⟨fun _ h => (by cases h), ?_⟩
        gi_wp2
        go_roundw
        case rel => exact ⟨i + 1, by omega, by go_num, hck2, hcf2, ⟨by rw [HJn.out]; exact HJ2.out⟩⟩
        case measure => simp [intOf]; omega
    · obtain rfl : i = 25 := by omega
      gi_wp2
      gi_loopw [20] (fun v20 wr => ∃ i : Nat, i ≤ 64 ∧ v20 = .int .u32 (i : Int) ∧ wr.cell? ⟨Bk, 0, none⟩ = some (.int .i64 kind) ∧ wr.cell? ⟨Bf, 0, none⟩ = some (.int .u32 first) ∧ Aside0 (J (lowL kind 25 ++ highL kind first i) wr)) (fun v20 _ => 64 - (intOf v20).toNat)
      case atStart => exact ⟨0, by omega, rfl, hck1, hcf1, ⟨by have := HJ1.out; simpa [highL] using this⟩⟩
      case round =>
        clear HJ1 hck1 hcf1
        obtain ⟨i, hi, rfl, hck1, hcf1, HJ1⟩ := hrel
        by_cases hlt : i < 64
        · have hkc := Lib.hid (fun W => c_known kind (first + (i : Int)) W (by omega) (by omega))
          have hlen : (lowL kind 25 ++ highL kind first i).length < 89 := by have := lowL_len kind 25; have := highL_len kind first i; rw [List.length_append]; omega
          by_cases hkn : known kind (first + (i : Int)) = true
          · rw [hkn] at hkc
            have HK := Aside0.mk hkn
            have hpr := Aside0.mk (high_codes kind first i hlt hkn)
            clear hkn
            gi_wp2_with (first
              | (refine ⟨trivial, ?_⟩
                 gi_at_call 90
                 refine (callsIn_wide.2 (hkc.out _)).mono ?_
                 rintro e W2 ⟨rfl, hb2⟩
                 have HJ2 := Aside0.mk (hJ _ _ _ HJ1.out hb2)
                 have hck2 := pw_cell_below hb2 hck1
                 have hcf2 := pw_cell_below hb2 hcf1
                 obtain ⟨fn, tmps, assign, body, hy, hR⟩ := hY (lowL kind 25 ++ highL kind first i) ((first + (i : Int))) W2 HJ2.out hlen
                 clear hb2)
              | fail)
            refine hR.mono ?_
            rintro e W3 (⟨rfl, hJ3, hk3⟩ | ⟨rfl, hJx3⟩)
            · have hck3 : W3.cell? ⟨Bk, 0, none⟩ = some (.int .i64 kind) := (hk3.cell (p := ⟨Bk, 0, none⟩) hBk).trans hck2
              have hcf3 : W3.cell? ⟨Bf, 0, none⟩ = some (.int .u32 first) := (hk3.cell (p := ⟨Bf, 0, none⟩) hBf).trans hcf2
              have HJ3 : Aside0 (J (lowL kind 25 ++ highL kind first (i + 1)) W3) := ⟨by have hkn := HK.out; rw [highL_succ kind first i, if_pos hkn, ← List.append_assoc]; exact hJ3⟩
              clear hJ3 hk3 hck1 hcf1 hck2 hcf2 hy hR
              gi_wp2
              go_roundw
              case rel =>
                refine ⟨_, _, _, _, _, _, _, _, _, _, _, _, _, _, _, _, _, _, ?_, rfl⟩
                exact ⟨i + 1, by omega, by go_num, hck3, hcf3, HJ3⟩
              case measure => simp [intOf]; omega
            · gi_wp2
              refine bodyPost_ret (results_none rfl _ _ _) rfl ?_
              exact ⟨⟨_, rfl⟩, .inr ⟨_, hpr.out, by first | exact hJx3 | (rw [← List.append_assoc]; exact hJx3)⟩⟩
          · have hkf : known kind (first + (i : Int)) = false := by simpa using hkn
            rw [hkf] at hkc
            have HJn : Aside0 (lowL kind 25 ++ highL kind first (i + 1) = lowL kind 25 ++ highL kind first i) := ⟨by rw [highL_succ kind first i, if_neg hkn, List.append_nil]⟩
            clear hkn
            gi_wp2_with (first
              | (refine ⟨trivial, ?_⟩
                 gi_at_call 90
                 refine (callsIn_wide.2 (hkc.out _)).mono ?_
                 rintro e W2 ⟨rfl, hb2⟩
                 have HJ2 := Aside0.mk (hJ _ _ _ HJ1.out hb2)
                 have hck2 := pw_cell_below hb2 hck1
                 have hcf2 := pw_cell_below hb2 hcf1
                 clear hb2)
              | fail)
            refine ⟨fun _ h => (by cases h), ?_⟩
            gi_wp2
            go_roundw
            case rel =>
              refine ⟨_, _, _, _, _, _, _, _, _, _, _, _, _, _, _, _, _, _, ?_, rfl⟩
              exact ⟨i + 1, by omega, by go_num, hck2, hcf2, ⟨by rw [HJn.out]; exact HJ2.out⟩⟩
            case measure => simp [intOf]; omega
        · obtain rfl : i = 64 := by omega
          gi_wp2
          go_end0
          exact ⟨⟨_, rfl⟩, .inl ⟨_, rfl, HJ1.out⟩⟩

theorem codes_stops (n : Nat) (hn : 1 ≤ n) (Bk Bf n₀ : Nat) (kind first : Int) (h0 : 0 ≤ first) (h1 : first + 64 < 4294967296) (w : World) (hBk : Bk < n₀) (hBf : Bf < n₀) (hn₀ : n₀ ≤ w.heap.size)
    (hck : w.cell? ⟨Bk, 0, none⟩ = some (.int .i64 kind)) (hcf : w.cell? ⟨Bf, 0, none⟩ = some (.int .u32 first)) :
    SeqStopsK Fence.wide n Tryd.prog 100 #[.pointer (some ⟨Bk, 0, none⟩), .pointer (some ⟨Bf, 0, none⟩)] (fun x : Int => #[Value.int .u32 x]) (Below n₀) (fun ys => ys = codesL kind first) (fun pre => pre <+: codesL kind first) 89 w := fun l J Jx W hW hJ _ hY hJ0 =>
  codes1_in n hn l Bk Bf n₀ kind first h0 h1 J Jx (fun s A B h hb => hJ s A B none h (grown_of_below hb none) (fun r e => by cases e)) hY W hBk hBf ((hW.cell (p := ⟨Bk, 0, none⟩) (by show Bk < _; omega)).trans hck) ((hW.cell (p := ⟨Bf, 0, none⟩) (by show Bf < _; omega)).trans hcf) hJ0
set_option maxHeartbeats 1000000 in
theorem c_codes (kind first : Int) (w : World) :
    Calls Tryd.prog 94 #[.int .i64 kind, .int .u32 first] w fun e w' => e = .returned (.func (.func 100) #[] #[.pointer (some ⟨w.heap.size, 0, none⟩), .pointer (some ⟨w.heap.size + 1, 0, none⟩)]) ∧ w' = (w.alloc (.cells #[.int .i64 kind] 3)).alloc (.cells #[.int .u32 first] 35) := by
  go_enter Tryd.func94, Tryd.ntmps94
  go_wp2
  go_ret
  exact ⟨rfl, rfl⟩
set_option maxHeartbeats 1000000 in
theorem c_OtsCodes (w : World) :
    Calls Tryd.prog 79 #[] w fun e w' => e = .returned (.func (.func 100) #[] #[.pointer (some ⟨w.heap.size, 0, none⟩), .pointer (some ⟨w.heap.size + 1, 0, none⟩)]) ∧ w' = (w.alloc (.cells #[.int .i64 1] 3)).alloc (.cells #[.int .u32 4026531840] 35) := by
  go_enter Tryd.func79, Tryd.ntmps79
  go_wp2_with (first | (go_at_call 94; refine (c_codes _ _ _).mono ?_; rintro e v ⟨rfl, rfl⟩) | fail)
  go_ret
  exact ⟨rfl, rfl⟩
end Go.Proofs.YtpdinahdcedmkaaDoor.ExtP
/- liverylaw06.told, codes: the codes of a kind as the program tells them, at most so many; slices.Equal, Contains, IsSorted. -/
namespace Go.Proofs.YtpdinahdcedmkaaDoor.ExtP
open Go.Proofs.YtpdinahdcedmkaaDoor.Ext
set_option linter.unusedVariables false
open Go.RowKit Go.Shelf Go.Proofs.YtpdinahdcedmkaaDoorW.PrintWords Go.Proofs.YtpdinahdcedmkaaDoorW.PrintLast Go.Proofs.YtpdinahdcedmkaaDoorW.PrintMore Go.Proofs.YtpdinahdcedmkaaDoor.Spec
attribute [local go_sem] Oper.semAt_some

theorem info_u32 : (Tryd.prog.info? 35).map (fun i => (i.zero, i.size, i.bytes)) = some (some (.int .u32 0), 1, 4) := by kernel_rfl
theorem codesL_len (kind first : Int) : (codesL kind first).length ≤ 89 := by
  unfold codesL
  have := lowL_len kind 25
  have := highL_len kind first 64
  rw [List.length_append]
  omega
theorem row_u32 {W : World} {base : Nat} {v : Value} {pre : List Int} (h : W.ownsRow base 35 1 v pre.length (pre.map (Value.int .u32))) : Kd.R (Kd.int .u32) 35 W base (fun _ => True) v pre := Kd.R_of_own (h1 := fun _ => rfl) h (fun _ _ => trivial)
end Go.Proofs.YtpdinahdcedmkaaDoor.ExtP
/- liverylaw06.codes and liveryref06.Codes: the codes of a kind; slices.Equal. -/
namespace Go.Proofs.YtpdinahdcedmkaaDoor.ExtP
open Go.Proofs.YtpdinahdcedmkaaDoor.Ext
set_option linter.unusedVariables false
open Go.RowKit Go.Proofs.YtpdinahdcedmkaaDoorW.PrintWords Go.Proofs.YtpdinahdcedmkaaDoorW.PrintLast Go.Proofs.YtpdinahdcedmkaaDoorW.PrintMore Go.Proofs.YtpdinahdcedmkaaDoor.Spec

def firstOf (kind : Int) : Int := if kind = 3 then 4043309056 else 4026531840
def codesOf (kind : Int) : List Int := if kind = 1 ∨ kind = 2 ∨ kind = 3 then codesL kind (firstOf kind) else []
set_option maxHeartbeats 1000000 in
theorem c_LmsCodes (w : World) :
    Calls Tryd.prog 80 #[] w fun e w' => e = .returned (.func (.func 100) #[] #[.pointer (some ⟨w.heap.size, 0, none⟩), .pointer (some ⟨w.heap.size + 1, 0, none⟩)]) ∧ w' = (w.alloc (.cells #[.int .i64 2] 3)).alloc (.cells #[.int .u32 4026531840] 35) := by
  go_enter Tryd.func80, Tryd.ntmps80
  go_wp2_with (first | (go_at_call 94; refine (c_codes _ _ _).mono ?_; rintro e v ⟨rfl, rfl⟩) | fail)
  go_ret
  exact ⟨rfl, rfl⟩
set_option maxHeartbeats 1000000 in
theorem c_XmssCodes (w : World) :
    Calls Tryd.prog 76 #[] w fun e w' => e = .returned (.func (.func 100) #[] #[.pointer (some ⟨w.heap.size, 0, none⟩), .pointer (some ⟨w.heap.size + 1, 0, none⟩)]) ∧ w' = (w.alloc (.cells #[.int .i64 3] 3)).alloc (.cells #[.int .u32 4043309056] 35) := by
  go_enter Tryd.func76, Tryd.ntmps76
  go_wp2_with (first | (go_at_call 94; refine (c_codes _ _ _).mono ?_; rintro e v ⟨rfl, rfl⟩) | fail)
  go_ret
  exact ⟨rfl, rfl⟩
end Go.Proofs.YtpdinahdcedmkaaDoor.ExtP
/- slices.Equal, Index, Contains, IsSorted of []uint32. -/
namespace Go.Proofs.YtpdinahdcedmkaaDoor.ExtP
open Go.Proofs.YtpdinahdcedmkaaDoor.Ext
set_option linter.unusedVariables false
open Go.RowKit Go.Proofs.YtpdinahdcedmkaaDoorW.PrintWords Go.Proofs.YtpdinahdcedmkaaDoorW.PrintLast Go.Proofs.YtpdinahdcedmkaaDoorW.PrintMore

theorem below_drewN' {b : Nat} {w w' : World} (h : Below b w w') (n : Nat) : Below b w (w'.drewN n) := pw_below_drewN h n
theorem take_snoc (l : List Int) (i : Nat) (hi : i < l.length) : l.take (i + 1) = l.take i ++ [l.getD i 0] := by
  rw [List.take_add_one, List.getD_eq_getElem?_getD, List.getElem?_eq_getElem hi]
  rfl
end Go.Proofs.YtpdinahdcedmkaaDoor.ExtP
/- param.plain, strings.HasPrefix, slices.Collect of the codes. -/
namespace Go.Proofs.YtpdinahdcedmkaaDoor.ExtP
open Go.Proofs.YtpdinahdcedmkaaDoor.Ext
set_option linter.unusedVariables false
open Go.RowKit Go.Shelf Go.Proofs.YtpdinahdcedmkaaDoorW.PrintWords Go.Proofs.YtpdinahdcedmkaaDoorW.PrintLast Go.Proofs.YtpdinahdcedmkaaDoorW.PrintMore Go.Proofs.YtpdinahdcedmkaaDoor.Spec

def rns (s : ByteArray) : Nat → Nat → List Nat
  | 0, _ => []
  | f + 1, pos => if pos < s.size then (Utf8.decode s pos).1 :: rns s f (pos + (Utf8.decode s pos).2) else []
theorem rns_end (s : ByteArray) (f pos : Nat) (h : ¬ pos < s.size) : rns s f pos = [] := by
  cases f with
  | zero => rfl
  | succ f => simp [rns, h]
theorem rns_step (s : ByteArray) (f pos : Nat) (h : pos < s.size) (hf : s.size ≤ pos + f) : ∃ f', s.size ≤ (pos + (Utf8.decode s pos).2) + f' ∧ rns s f pos = (Utf8.decode s pos).1 :: rns s f' (pos + (Utf8.decode s pos).2) := by
  cases f with
  | zero => omega
  | succ f =>
    have := Lib.decode_width_pos s pos h
    exact ⟨f, by omega, by simp [rns, h]⟩
theorem iter_new (w : World) (s : ByteArray) : (w.iter s 0).heap[w.heap.size]? = some (.stringIter s 0) := World.iter_heap w s 0
theorem iter_less {w : World} {k : Nat} {s : ByteArray} {pos d : Nat} (hd : 1 ≤ d) (hit : w.heap[k]? = some (.stringIter s pos)) (hp : pos < s.size) : s.size - (w.iterAt k s (pos + d)).iterPos k < s.size - w.iterPos k := by
  have h1 := Lib.iterAt_heap w k s pos (pos + d) hit
  unfold World.iterPos
  rw [h1, hit]
  simp only
  omega
theorem below_iter (w : World) (s : ByteArray) : Below w.heap.size w (w.iter s 0) := (Below.refl _ _).alloc (Nat.le_refl _) _
theorem iterPos_at {w : World} {k pos : Nat} {s : ByteArray} (h : w.heap[k]? = some (.stringIter s pos)) : w.iterPos k = pos := by unfold World.iterPos; rw [h]
def okR (r : Nat) : Bool := decide (r = 95 ∨ r = 45 ∨ (48 ≤ r ∧ r ≤ 57) ∨ (65 ≤ r ∧ r ≤ 90))
def plainS (s : ByteArray) : Bool := (rns s s.size 0).all okR
set_option maxHeartbeats 4000000 in
set_option maxRecDepth 100000 in
theorem c_plain (s : ByteArray) (w : World) (hs : s.size ≤ 140737488351232) :
    Calls Tryd.prog 77 #[.string s] w fun e w' => e = .returned (.bool (plainS s)) ∧ Below w.heap.size w w' := by
  obtain ⟨U, hU⟩ : ∃ U, plainS s = U := ⟨_, rfl⟩
  have HU := Lib.hid hU
  rw [hU]
  clear hU
  go_enter Tryd.func77, Tryd.ntmps77
  go_wp2
  go_loopw [] (fun wr => ∃ (pos fuel : Nat), wr.heap[w.heap.size]? = some (.stringIter s pos) ∧ Aside0 (s.size ≤ pos + fuel ∧ (rns s fuel pos).all okR = plainS s) ∧ Aside0 (Below w.heap.size w wr)) (fun wr => s.size - wr.iterPos w.heap.size)
  case atStart => exact ⟨0, s.size, iter_new w s, ⟨by omega, rfl⟩, ⟨below_iter w s⟩⟩
  case round =>
    obtain ⟨pos, fuel, hit, hR, hB⟩ := hrel
    by_cases hp : pos < s.size
    · have hw1 := Lib.decode_width_pos s pos hp
      obtain ⟨f2, hf2, he2⟩ := rns_step s fuel pos hp hR.out.1
      have hnx := fun ty => Lib.run_next_any_at (P := Tryd.prog) wr w.heap.size s pos ty hit hp
      have HI0 := Lib.iterAt_heap wr w.heap.size s pos (pos + (Utf8.decode s pos).2) hit
      have HB0 := Lib.below_iterAt hB.out (Nat.le_refl _) s (pos + (Utf8.decode s pos).2)
      have HM0 := iter_less hw1 hit hp
      generalize hd : Utf8.decode s pos = d at *
      obtain ⟨r, wd⟩ := d
      simp only at *
      have hR1 := hR.out.2
      rw [he2, List.all_cons] at hR1
      have HBI := Aside0.mk HB0
      have HII := Aside0.mk HI0
      have HMM : Aside0 (s.size - (pos + wd) < s.size - wr.iterPos w.heap.size) := ⟨by rwa [iterPos_at HI0] at HM0⟩
      have hF := Aside0.mk hf2
      clear hd he2 hf2 hR HI0 HB0 HM0 hB
      have good : okR r = true → Aside0 ((rns s f2 (pos + wd)).all okR = plainS s) := fun h => ⟨by rw [← hR1, h]; rfl⟩
      have bad : okR r = false → U = false := fun h => by rw [← HU.out, ← hR1, h]; rfl
      clear hR1
      by_cases h1 : r = 95
      · subst h1
        have HG := good (by decide)
        clear good bad
        go_wp2
        go_roundw
        case rel => exact ⟨pos + wd, f2, HII.out, ⟨hF.out, HG.out⟩, HBI⟩
        case measure => rw [iterPos_at HII.out]; exact HMM.out
      by_cases h2 : r = 45
      · subst h2
        have HG := good (by decide)
        clear good bad
        go_wp2
        go_roundw
        case rel => exact ⟨pos + wd, f2, HII.out, ⟨hF.out, HG.out⟩, HBI⟩
        case measure => rw [iterPos_at HII.out]; exact HMM.out
      have t1 : ((r : Int) == 95) = false := beq_eq_false_iff_ne.2 (by omega)
      have t1' : ((r : Int) != 95) = true := bne_iff_ne.2 (by omega)
      have t2 : ((r : Int) == 45) = false := beq_eq_false_iff_ne.2 (by omega)
      have t2' : ((r : Int) != 45) = true := bne_iff_ne.2 (by omega)
      have hc : r < 48 ∨ (48 ≤ r ∧ r ≤ 57) ∨ (57 < r ∧ r < 65) ∨ (65 ≤ r ∧ r ≤ 90) ∨ 90 < r := by omega
      rcases hc with hc | hc | hc | hc | hc
      · obtain rfl := bad (by unfold okR; apply decide_eq_false; omega)
        have q1 : (r : Int) < 48 := by omega
        have q2 : (r : Int) < 65 := by omega
        clear good bad h1 h2 hc
        go_wp2
        go_ret
        exact ⟨rfl, HBI.out⟩
      · have HG := good (by unfold okR; apply decide_eq_true; omega)
        have q1 : ¬ (r : Int) < 48 := by omega
        have q2 : ¬ (57 : Int) < (r : Int) := by omega
        clear good bad h1 h2 hc
        go_wp2
        go_roundw
        case rel => exact ⟨pos + wd, f2, HII.out, ⟨hF.out, HG.out⟩, HBI⟩
        case measure => rw [iterPos_at HII.out]; exact HMM.out
      · obtain rfl := bad (by unfold okR; apply decide_eq_false; omega)
        have q1 : ¬ (r : Int) < 48 := by omega
        have q2 : (57 : Int) < (r : Int) := by omega
        have q3 : (r : Int) < 65 := by omega
        clear good bad h1 h2 hc
        go_wp2
        go_ret
        exact ⟨rfl, HBI.out⟩
      · have HG := good (by unfold okR; apply decide_eq_true; omega)
        have q1 : ¬ (r : Int) < 48 := by omega
        have q2 : (57 : Int) < (r : Int) := by omega
        have q3 : ¬ (r : Int) < 65 := by omega
        have q4 : ¬ (90 : Int) < (r : Int) := by omega
        clear good bad h1 h2 hc
        go_wp2
        go_roundw
        case rel => exact ⟨pos + wd, f2, HII.out, ⟨hF.out, HG.out⟩, HBI⟩
        case measure => rw [iterPos_at HII.out]; exact HMM.out
      · obtain rfl := bad (by unfold okR; apply decide_eq_false; omega)
        have q1 : ¬ (r : Int) < 48 := by omega
        have q2 : (57 : Int) < (r : Int) := by omega
        have q3 : ¬ (r : Int) < 65 := by omega
        have q4 : (90 : Int) < (r : Int) := by omega
        clear good bad h1 h2 hc
        go_wp2
        go_ret
        exact ⟨rfl, HBI.out⟩
    · have hnx := fun ty => Lib.run_next_end_at (P := Tryd.prog) wr w.heap.size s pos ty hit hp
      have hU : U = true := by
        have := hR.out.2
        rw [rns_end s fuel pos hp] at this
        rw [← HU.out, ← this]
        rfl
      subst hU
      clear hR
      go_wp2
      go_ret
      exact ⟨rfl, hB.out⟩
theorem str_ne {a b : ByteArray} (h : a ≠ b) : (a.toList == b.toList) = false := by
  rw [beq_eq_false_iff_ne, ByteArray.toList_eq, ByteArray.toList_eq]
  exact fun e => h (Go.WideShapes.bytes_inj e)
def prefS (s p : ByteArray) : Bool := decide (p.size ≤ s.size ∧ s.extract 0 p.size = p)
theorem sl_to (s : ByteArray) (j : Int) (h0 : 0 ≤ j) (h2 : j ≤ s.size) : ∀ W, (Instr.slice 9 (.string s) none (some (.int .i64 j)) none).run Tryd.prog W = .ok (.string (s.extract 0 j.toNat)) W := by
  intro W
  simp [go_sem, Tryd.underlying9, h0, h2]
set_option maxHeartbeats 1000000 in
theorem c_HasPrefix (s p : ByteArray) (w : World) (hs : s.size ≤ 140737488351232) (hp : p.size ≤ 140737488351232) :
    Calls Tryd.prog 78 #[.string s, .string p] w fun e w' => e = .returned (.bool (prefS s p)) ∧ w' = w := by
  have key : ∀ W, Calls Tryd.prog 75 #[.string s, .string p] W fun e w' => e = .returned (.bool (prefS s p)) ∧ w' = W := by
    intro W
    by_cases h1 : p.size ≤ s.size
    · have hsl := sl_to s (p.size : Int) (by omega) (by omega)
      rw [Int.toNat_natCast] at hsl
      have q1 : (p.size : Int) ≤ (s.size : Int) := by omega
      by_cases h2 : s.extract 0 p.size = p
      · rw [show prefS s p = true from decide_eq_true ⟨h1, h2⟩]
        rw [h2] at hsl
        clear h1 h2
        go_enter Tryd.func75, Tryd.ntmps75
        go_wp2
        go_ret
        exact ⟨rfl, rfl⟩
      · rw [show prefS s p = false from decide_eq_false (fun h => h2 h.2)]
        have te := str_ne h2
        generalize s.extract 0 p.size = x at *
        clear h1 h2
        go_enter Tryd.func75, Tryd.ntmps75
        go_wp2
        go_ret
        exact ⟨rfl, rfl⟩
    · rw [show prefS s p = false from decide_eq_false (fun h => h1 h.1)]
      have q1 : ¬ (p.size : Int) ≤ (s.size : Int) := by omega
      clear h1
      go_enter Tryd.func75, Tryd.ntmps75
      go_wp2
      go_ret
      exact ⟨rfl, rfl⟩
  have kk := Lib.hid key
  clear key
  go_enter Tryd.func78, Tryd.ntmps78
  go_wp2_with (first | (go_at_call 75; refine (kk.out _).mono ?_; rintro e v ⟨rfl, rfl⟩) | fail)
  go_ret
  exact ⟨rfl, rfl⟩
end Go.Proofs.YtpdinahdcedmkaaDoor.ExtP
/- param.Code: the kind and the code of a name. -/
namespace Go.Proofs.YtpdinahdcedmkaaDoor.ExtP
open Go.Proofs.YtpdinahdcedmkaaDoor.Ext hiding blk_cell blk_set
set_option linter.unusedVariables false
open Go.RowKit Go.Shelf Go.Proofs.YtpdinahdcedmkaaDoorW.PrintWords Go.Proofs.YtpdinahdcedmkaaDoorW.PrintLast Go.Proofs.YtpdinahdcedmkaaDoorW.PrintMore Go.Proofs.YtpdinahdcedmkaaDoor.Spec
attribute [local go_sem] Oper.semAt_some

set_option maxRecDepth 100000 in
set_option maxHeartbeats 4000000 in
theorem append_walk (Bk Bf : Nat) (kind first : Int) (h0 : 0 ≤ first) (h1 : first + 64 < 4294967296) (w : World) (hBk : Bk < w.heap.size) (hBf : Bf < w.heap.size)
    (hck : w.cell? ⟨Bk, 0, none⟩ = some (.int .i64 kind)) (hcf : w.cell? ⟨Bf, 0, none⟩ = some (.int .u32 first)) :
    Calls Tryd.prog 95 #[.slice none 0 0, .func (.func 100) #[] #[.pointer (some ⟨Bk, 0, none⟩), .pointer (some ⟨Bf, 0, none⟩)]] w fun e w' => ∃ v, e = .returned v ∧ Kd.R (Kd.int .u32) 35 w' w.heap.size (fun _ => True) v (codesL kind first) ∧ Below w.heap.size w w' := by
  obtain ⟨i0, hi, hz0, hz1, hz2⟩ := info_parts info_u32
  refine (callsIn_wide (n := 5)).1 ?_
  refine callsIn_of_wp_marks Tryd.func95 rfl trivial ?_ rfl
  simp only [Tryd.ntmps95, List.size_toArray, List.length_cons, List.length_nil, Nat.reduceAdd, Nat.reduceSub, Array.replicate_succ, Array.replicate_zero, List.push_toArray, List.append_toArray, List.nil_append, List.cons_append]
  gi_wp2
  have bL := Boxed.new w 136 (.slice none 0 0)
  have hB0 : Below w.heap.size w (w.alloc (.cells #[.slice none 0 0] 136)) := (Below.refl _ w).alloc (Nat.le_refl _) _
  have hsz0 : (w.alloc (.cells #[.slice none 0 0] 136)).heap.size = w.heap.size + 1 := by simp
  generalize (w.alloc (.cells #[.slice none 0 0] 136)) = W0 at *
  have hRow : OwnFrom W0.heap.size (fun (pre : List Int) W => ∃ v, Boxed W w.heap.size 136 v ∧ W.ownsRow w.heap.size 35 1 v pre.length (pre.map (Value.int .u32)) ∧ True) := Own.from (holdsRow_own w.heap.size w.heap.size 136 35 1 (fun pre : List Int => pre.length) (fun pre => pre.map (Value.int .u32)) (fun _ _ => True)) _
  have hBel : OwnFrom (β := List Int) W0.heap.size (fun _ W => Below w.heap.size w W) := ownFrom_below (Nat.le_refl _) (by rw [hsz0]; omega)
  refine wpIn_rangeFunc_ownG rfl (by omega) (gf := 100) (lb := #[.pointer (some ⟨Bk, 0, none⟩), .pointer (some ⟨Bf, 0, none⟩)]) rfl trivial (enters_of Tryd.func100 (by kernel_rfl) rfl)
    (codes_stops 4 (by omega) Bk Bf w.heap.size kind first h0 h1 W0 hBk hBf (by rw [hsz0]; omega) ((hB0.cell (p := ⟨Bk, 0, none⟩) hBk).trans hck) ((hB0.cell (p := ⟨Bf, 0, none⟩) hBf).trans hcf)) belowK_t (belowK_b (by rw [hsz0]; omega)) (Below.refl _ _) (fun _ => rfl)
    (fun pre W => (∃ v, Boxed W w.heap.size 136 v ∧ W.ownsRow w.heap.size 35 1 v pre.length (pre.map (Value.int .u32)) ∧ True) ∧ Below w.heap.size w W)
    (fun _ _ _ => False)
    (fun s A B row hs hg hr => ⟨hRow s A B row hs.1 hg hr, hBel s A B row hs.2 hg hr⟩)
    (fun _ _ _ _ _ hs _ _ => hs)
    ⟨⟨_, bL, World.ownsRow_nil _ _ _ _, trivial⟩, hB0⟩
    (fun x => { tmps := #[.slice none 0 0, .func (.func 100) #[] #[.pointer (some ⟨Bk, 0, none⟩), .pointer (some ⟨Bf, 0, none⟩)], .pointer (some ⟨w.heap.size, 0, none⟩), undef, .slice none 0 0, .int .u32 x, .func (.func 100) #[] #[.pointer (some ⟨Bk, 0, none⟩), .pointer (some ⟨Bf, 0, none⟩)], .int .u32 x, undef, undef, undef, undef, undef], defers := [] }) ?assign ?body ?done ?stop
  case assign =>
    intro l x W K hK
    gi_wp2
    exact hK
  case body =>
    rintro l pre x W ⟨⟨v, hv, hrow, _⟩, hB⟩ hlt
    obtain ⟨A, c, rfl⟩ := Kd.R_slice (row_u32 hrow)
    have hc := hv.cell
    gi_wp2_with (gi_at_builtin; refine wpListIn_append_own _ rfl _ _ 136 rfl w.heap.size 35 i0 (.int .u32 0) 1 4 Tryd.underlying136 hi hz0 hz1 hz2 rfl (by decide) _ _ _ rfl (hrow.alloc _) ⟨W.heap.size, 0, none⟩ 1 1 [.int .u32 x] rfl rfl (cell_one_new _ _ _) (by simp [Value.oneCell']) (by simp only [maxLen]; omega) (by omega) (by have := hB.size; simp; omega) ?_; intro v' w1 hown' hgrow _; obtain ⟨g', cap', rfl⟩ := ownsRow_succ hown'; obtain ⟨hv1, hv2, hr2, hk2, hb2⟩ := hv.appended (by decide) hrow hB.size (by omega) hown' hgrow; have hc1 := hv1.cell; have hf1 := hv1.frozen)
    exact ⟨hk2.from _, hb2, ⟨_, hv2, by simpa using hr2⟩, hB.trans hb2⟩
  case done =>
    rintro D ys W hD rfl ⟨⟨v, hv, hrow, _⟩, hB⟩ hK
    have hc := hv.cell
    gi_wp2
    refine ⟨by simp, .inl ⟨_, _, rfl, run_takeDeferred hK, ?_⟩⟩
    refine ⟨_, results_tmp rfl _ _ _, v, rfl, ?_, hB.trans (belowK_b (w := w) (Nat.le_refl _) W D _ _ (by omega) hK rfl rfl)⟩
    exact row_u32 (ownsRow_putObj hrow _ hK rfl)
  case stop =>
    rintro D c pre W _ _ h _
    exact h.elim
set_option maxHeartbeats 1000000 in
theorem collect_walk (Bk Bf : Nat) (kind first : Int) (h0 : 0 ≤ first) (h1 : first + 64 < 4294967296) (w : World) (hBk : Bk < w.heap.size) (hBf : Bf < w.heap.size)
    (hck : w.cell? ⟨Bk, 0, none⟩ = some (.int .i64 kind)) (hcf : w.cell? ⟨Bf, 0, none⟩ = some (.int .u32 first)) :
    Calls Tryd.prog 81 #[.func (.func 100) #[] #[.pointer (some ⟨Bk, 0, none⟩), .pointer (some ⟨Bf, 0, none⟩)]] w fun e w' => ∃ v, e = .returned v ∧ Kd.R (Kd.int .u32) 35 w' w.heap.size (fun _ => True) v (codesL kind first) ∧ Below w.heap.size w w' := by
  have ca := Lib.hid (append_walk Bk Bf kind first h0 h1 w hBk hBf hck hcf)
  clear hck hcf
  go_enter Tryd.func81, Tryd.ntmps81
  go_wp2_with (first | (go_at_call 95; refine ca.out.mono ?_; rintro e v ⟨u, rfl, hr, hb⟩) | fail)
  go_ret
  exact ⟨_, rfl, hr, hb⟩
theorem keep3 {w W v : World} {a b : Addr} {x y : Value} (h1 : W.cell? a = some x) (h2 : W.cell? b = some y) (h3 : Aside0 (Below w.heap.size w W)) (hb : Below W.heap.size W v) : v.cell? a = some x ∧ v.cell? b = some y ∧ Aside0 (Below w.heap.size w v) := ⟨pw_cell_below hb h1, pw_cell_below hb h2, ⟨h3.out.trans (hb.mono h3.out.size)⟩⟩
/-- is it the code of a name -/
def isName (k : Int) (name : ByteArray) (c : Int) : Bool := decide (nameS k c = name)
set_option maxHeartbeats 2000000 in
theorem pred_walk (Bk Bn : Nat) (k : Int) (name : ByteArray) (c : Int) (g0 : 0 ≤ c) (g1 : c < 4294967296) (w : World)
    (hck : w.cell? ⟨Bk, 0, none⟩ = some (.int .i64 k)) (hcn : w.cell? ⟨Bn, 0, none⟩ = some (.string name)) :
    Calls Tryd.prog 83 #[.int .u32 c, .pointer (some ⟨Bk, 0, none⟩), .pointer (some ⟨Bn, 0, none⟩)] w fun e w' => e = .returned (.bool (isName k name c)) ∧ Below w.heap.size w w' := by
  have Cn := fun W => c_Name k c W g0 g1
  have hlk := World.block_lt_of_cell? w _ hck
  have hln := World.block_lt_of_cell? w _ hcn
  simp only at hlk hln
  have HB := Aside0.mk (Below.refl w.heap.size w)
  unfold isName
  by_cases hq : nameS k c = name
  · rw [decide_eq_true hq]
    rw [hq] at Cn
    have cn := Lib.hid Cn
    clear Cn hq
    go_enter Tryd.func83, Tryd.ntmps83
    go_wp2
    go_region_held3 (fun W => W.cell? ⟨Bk, 0, none⟩ = some (.int .i64 k) ∧ W.cell? ⟨Bn, 0, none⟩ = some (.string name) ∧ Aside0 (Below w.heap.size w W))
      (first
        | exact ⟨by simpa using hck, by simpa using hcn, ⟨HB.out.drew⟩⟩
        | (go_split_ands
           exact keep3 (by assumption) (by assumption) (by assumption) hbz))
      (first
        | (go_simp
           go_at_call 72
           refine (cn.out _).mono ?_
           rintro e v1 ⟨rfl, hbz⟩))
    all_goals
      go_wp2
      go_ret
      go_split_ands
      exact ⟨rfl, Aside0.out (by assumption)⟩
  · rw [decide_eq_false hq]
    have te := str_ne hq
    generalize nameS k c = nm at *
    have cn := Lib.hid Cn
    clear Cn hq
    go_enter Tryd.func83, Tryd.ntmps83
    go_wp2
    go_region_held3 (fun W => W.cell? ⟨Bk, 0, none⟩ = some (.int .i64 k) ∧ W.cell? ⟨Bn, 0, none⟩ = some (.string name) ∧ Aside0 (Below w.heap.size w W))
      (first
        | exact ⟨by simpa using hck, by simpa using hcn, ⟨HB.out.drew⟩⟩
        | (go_split_ands
           exact keep3 (by assumption) (by assumption) (by assumption) hbz))
      (first
        | (go_simp
           go_at_call 72
           refine (cn.out _).mono ?_
           rintro e v1 ⟨rfl, hbz⟩))
    all_goals
      go_wp2
      go_ret
      go_split_ands
      exact ⟨rfl, Aside0.out (by assumption)⟩

set_option maxHeartbeats 2000000 in
set_option maxRecDepth 100000 in
theorem indexF_walk (A : Option Addr) (cp : Nat) (L : List Int) (Bk Bn : Nat) (k : Int) (name : ByteArray) (w : World) (hA : Kd.C (Kd.int .u32) w A L.length L) (hl : L.length ≤ 1048576) (hc : L.length ≤ cp) (hr : ∀ x ∈ L, 0 ≤ x ∧ x < 4294967296)
    (hck : w.cell? ⟨Bk, 0, none⟩ = some (.int .i64 k)) (hcn : w.cell? ⟨Bn, 0, none⟩ = some (.string name)) :
    Calls Tryd.prog 82 #[.slice A L.length cp, .func (.func 83) #[] #[.pointer (some ⟨Bk, 0, none⟩), .pointer (some ⟨Bn, 0, none⟩)]] w fun e w' => (∃ r : Int, e = .returned (.int .i64 r) ∧ ((r = -1 ∧ ∀ x ∈ L, isName k name x = false) ∨ (∃ i : Nat, r = (i : Int) ∧ i < L.length ∧ isName k name (L.getD i 0) = true ∧ ∀ x ∈ L.take i, isName k name x = false))) ∧ Below w.heap.size w w' := by
  have HA := Aside0.mk hA
  have HR := Aside0.mk hr
  have HK := Aside0.mk hck
  have HN := Aside0.mk hcn
  clear hA hr hck hcn
  go_enter Tryd.func82, Tryd.ntmps82
  go_wp2
  go_loopw [8] (fun v8 wr => ∃ i : Nat, i ≤ L.length ∧ v8 = .int .i64 (i : Int) ∧ Aside0 (∀ x ∈ L.take i, isName k name x = false) ∧ Aside0 (Below w.heap.size w wr)) (fun v8 _ => L.length - (intOf v8).toNat)
  case atStart => exact ⟨0, by omega, rfl, ⟨by simp⟩, ⟨Below.refl _ _⟩⟩
  case round =>
    obtain ⟨i, hi, rfl, hE, hW⟩ := hrel
    by_cases hlt : i < L.length
    · have hti : (i : Int) < (L.length : Int) := by omega
      obtain ⟨ad1, ea1, hx1⟩ := Kd.at_int (Kd.C_below HA.out hW.out) (i : Int) (by omega) hti
      subst ea1
      rw [Int.toNat_natCast] at hx1
      have hn1 : rd L (i : Int) = L.getD i 0 := rfl
      rw [hn1] at hx1
      have HS := Aside0.mk (take_snoc L i hlt)
      have hm : L.getD i 0 ∈ L := by rw [List.getD_eq_getElem?_getD, List.getElem?_eq_getElem hlt]; exact List.getElem_mem hlt
      have hrg := HR.out _ hm
      have cp1 := Lib.hid (pred_walk Bk Bn k name (L.getD i 0) hrg.1 hrg.2 wr ((hW.out.cell (World.block_lt_of_cell? w _ HK.out)).trans HK.out) ((hW.out.cell (World.block_lt_of_cell? w _ HN.out)).trans HN.out))
      clear hn1 hrg hm
      by_cases hp : isName k name (L.getD i 0) = true
      · have CP := cp1.out
        rw [hp] at CP
        have cp1 := Lib.hid CP
        have HP := Aside0.mk hp
        clear CP hp HS
        generalize hgx : L.getD i 0 = x at *
        have HG := Aside0.mk hgx
        clear hgx
        go_wp2_with (first
          | (go_at_call 83
             refine cp1.out.mono ?_
             rintro e v ⟨rfl, hb⟩)
          | fail)
        go_ret
        exact ⟨⟨_, rfl, .inr ⟨i, rfl, hlt, by rw [HG.out]; exact HP.out, hE.out⟩⟩, hW.out.trans (hb.mono hW.out.size)⟩
      · have hpf : isName k name (L.getD i 0) = false := by simpa using hp
        have CP := cp1.out
        rw [hpf] at CP
        have cp1 := Lib.hid CP
        have HN2 := Aside0.mk (show ∀ x ∈ L.take (i + 1), isName k name x = false by
          rw [HS.out]
          intro x hx
          rcases List.mem_append.1 hx with hx | hx
          · exact hE.out x hx
          · simp only [List.mem_cons, List.not_mem_nil, or_false] at hx
            subst hx
            exact hpf)
        clear CP hp hpf HS
        generalize L.getD i 0 = x at *
        go_wp2_with (first
          | (go_at_call 83
             refine cp1.out.mono ?_
             rintro e v ⟨rfl, hb⟩
             have HW2 := Aside0.mk (hW.out.trans (hb.mono hW.out.size))
             clear hb)
          | fail)
        go_roundw
        case rel => exact ⟨i + 1, by omega, by go_num, HN2, HW2⟩
        case measure => simp [intOf]; omega
    · obtain rfl : i = L.length := by omega
      have hE2 := Aside0.mk (show ∀ x ∈ L, isName k name x = false by have := hE.out; rwa [List.take_of_length_le (Nat.le_refl _)] at this)
      clear hE
      go_wp2
      go_ret
      exact ⟨⟨_, rfl, .inl ⟨rfl, hE2.out⟩⟩, hW.out⟩

def pLmots : ByteArray := ⟨#[76, 77, 79, 84, 83, 95]⟩
def pLms : ByteArray := ⟨#[76, 77, 83, 95]⟩
def kindOf (name : ByteArray) : Int := if prefS name pLmots = true then 1 else if prefS name pLms = true then 2 else 3
def codeS (name : ByteArray) : Int × Int × Int :=
  if plainS name = false then (0, 0, 60) else match (codesOf (kindOf name)).find? (isName (kindOf name) name) with
    | none => (0, 0, 60)
    | some c => (kindOf name, c, 0)
theorem krow {W v : World} {b : Nat} {o : Obj} (h : W.heap[b]? = some o) (hb : Below W.heap.size W v) : v.heap[b]? = some o := (hb.block b (Array.getElem?_eq_some_iff.1 h).1).trans h
theorem knew {W : World} {b : Nat} {o o' : Obj} (h : W.heap[b]? = some o) : (W.alloc o').heap[b]? = some o := (Below.heap_alloc W o' b (Array.getElem?_eq_some_iff.1 h).1).trans h
theorem kset {W : World} {b g : Nat} {o : Obj} {u : Value} (h : W.heap[b]? = some o) (hne : b ≠ g) : (W.setCell ⟨g, 0, none⟩ u).heap[b]? = some o := (Below.heap_setCell W ⟨g, 0, none⟩ u b hne).trans h
theorem find_at (p : Int → Bool) : ∀ (L : List Int) (i : Nat), i < L.length → p (L.getD i 0) = true → (∀ x ∈ L.take i, p x = false) → L.find? p = some (L.getD i 0)
  | [], i, h, _, _ => by simp at h
  | x :: L, 0, h, hp, _ => by
    have : p x = true := by simpa using hp
    simp [this]
  | x :: L, i + 1, h, hp, hf => by
    have hx : p x = false := hf x (by simp)
    rw [List.find?_cons, hx]
    have := find_at p L i (by simpa using h) (by simpa using hp) (fun y hy => hf y (by simp [hy]))
    simpa using this
theorem find_none (p : Int → Bool) (L : List Int) (h : ∀ x ∈ L, p x = false) : L.find? p = none := by
  rw [List.find?_eq_none]
  intro x hx
  rw [h x hx]
  decide
set_option maxRecDepth 100000 in
theorem codesOf_bd (k : Int) (h : k = 1 ∨ k = 2 ∨ k = 3) : ∀ x ∈ codesOf k, 0 ≤ x ∧ x < 4294967296 := by
  rcases h with rfl | rfl | rfl <;> decide +kernel
/-- the answer from the list -/
def ansS (k : Int) (name : ByteArray) : Int × Int × Int := match (codesOf k).find? (isName k name) with
  | none => (0, 0, 60)
  | some c => (k, c, 0)
theorem codeS_eq (name : ByteArray) (h : plainS name = true) : codeS name = ansS (kindOf name) name := by
  unfold codeS ansS
  rw [if_neg (by rw [h]; decide)]
set_option maxHeartbeats 4000000 in
set_option maxRecDepth 100000 in
/-- param.Code from the collecting on, for one kind -/
theorem indexF_ans (A : Option Addr) (cp : Nat) (Bk Bn : Nat) (k : Int) (hk : k = 1 ∨ k = 2 ∨ k = 3) (name : ByteArray) (w : World) (hA : Kd.C (Kd.int .u32) w A (codesOf k).length (codesOf k)) (hc : (codesOf k).length ≤ cp)
    (hck : w.cell? ⟨Bk, 0, none⟩ = some (.int .i64 k)) (hcn : w.cell? ⟨Bn, 0, none⟩ = some (.string name)) :
    Calls Tryd.prog 82 #[.slice A (codesOf k).length cp, .func (.func 83) #[] #[.pointer (some ⟨Bk, 0, none⟩), .pointer (some ⟨Bn, 0, none⟩)]] w fun e w' => (∃ r : Int, e = .returned (.int .i64 r) ∧ ((r = -1 ∧ ansS k name = (0, 0, 60)) ∨ (∃ i : Nat, r = (i : Int) ∧ i < (codesOf k).length ∧ ansS k name = (k, (codesOf k).getD i 0, 0)))) ∧ Below w.heap.size w w' := by
  have hl : (codesOf k).length ≤ 89 := by unfold codesOf; rw [if_pos hk]; exact codesL_len _ _
  refine (indexF_walk A cp (codesOf k) Bk Bn k name w hA (by omega) hc (codesOf_bd k hk) hck hcn).mono ?_
  rintro e v ⟨⟨r, rfl, h⟩, hb⟩
  refine ⟨⟨r, rfl, ?_⟩, hb⟩
  rcases h with ⟨h1, h2⟩ | ⟨i, h1, h2, h3, h4⟩
  · exact .inl ⟨h1, by unfold ansS; rw [find_none _ _ h2]⟩
  · exact .inr ⟨i, h1, h2, by unfold ansS; rw [find_at _ _ i h2 h3 h4]⟩
set_option maxHeartbeats 4000000 in
set_option maxRecDepth 100000 in
theorem c_Code (name : ByteArray) (w : World) (hs : name.size ≤ 140737488351232) :
    Calls Tryd.prog 63 #[.string name] w fun e w' => e = .returned (.tuple #[.int .i64 (codeS name).1, .int .u32 (codeS name).2.1, .int .i64 (codeS name).2.2]) ∧ Below w.heap.size w w' := by
  obtain ⟨U, hU⟩ : ∃ U, codeS name = U := ⟨_, rfl⟩
  have HU := Lib.hid hU
  rw [hU]
  clear hU
  cases hpl : plainS name with
  | false =>
    have CP := fun W => c_plain name W hs
    rw [hpl] at CP
    have cp := Lib.hid CP
    obtain rfl : U = (0, 0, 60) := by rw [← HU.out]; unfold codeS; rw [if_pos hpl]
    clear CP hpl
    go_enter Tryd.func63, Tryd.ntmps63
    go_wp2_with (first
      | (go_at_call 76; refine (c_XmssCodes _).mono ?_; rintro e v ⟨rfl, rfl⟩)
      | (go_at_call 77
         refine (cp.out _).mono ?_
         rintro e v1 ⟨rfl, hb⟩
         have q0 := World.alloc_heap_new w (.cells #[.string name] 9)
         have q1 := World.alloc_heap_new (w.alloc (.cells #[.string name] 9)) (.cells #[.int .i64 3] 3)
         have q2 := World.alloc_heap_new ((w.alloc (.cells #[.string name] 9)).alloc (.cells #[.int .i64 3] 3)) (.cells #[.int .u32 4043309056] 35)
         have q3 := World.alloc_heap_new (((w.alloc (.cells #[.string name] 9)).alloc (.cells #[.int .i64 3] 3)).alloc (.cells #[.int .u32 4043309056] 35)) (.cells #[.int .i64 3] 3)
         simp only [World.size_alloc] at q1 q2 q3
         have HN := Aside0.mk (krow (knew (knew (knew q0))) hb)
         have HX1 := Aside0.mk (krow (knew (knew q1)) hb)
         have HX2 := Aside0.mk (krow (knew q2) hb)
         have HKB := Aside0.mk (krow q3 hb)
         have hcn := blk_cell HN.out 0
         have hck := blk_cell HKB.out 0
         have hfk := blk_free HKB.out 0
         have hz : w.heap.size + 3 < v1.heap.size := by have := hb.size; simp at this; omega
         have HB1 : Aside0 (Below w.heap.size w v1) := ⟨(((((Below.refl _ w).alloc (Nat.le_refl _) (.cells #[.string name] 9)).alloc (by simp) (.cells #[.int .i64 3] 3)).alloc (by simp; omega) (.cells #[.int .u32 4043309056] 35)).alloc (by simp; omega) (.cells #[.int .i64 3] 3)).trans (hb.mono (by simp; omega))⟩
         clear q0 q1 q2 q3 hb)
      | fail)
    exact bodyPost_ret (v := .tuple #[.int .i64 0, .int .u32 0, .int .i64 60]) (by simp [results, Tryd.results63, go_sem]) rfl ⟨rfl, HB1.out⟩
  | true =>
    have CP := fun W => c_plain name W hs
    rw [hpl] at CP
    have cp := Lib.hid CP
    have hUe := HU.out
    rw [codeS_eq name hpl] at hUe
    have PR1 := fun W => c_HasPrefix name ⟨#[76, 77, 79, 84, 83, 95]⟩ W hs (by decide)
    have PR2 := fun W => c_HasPrefix name ⟨#[76, 77, 83, 95]⟩ W hs (by decide)
    clear CP hpl
    cases h1 : prefS name pLmots with
    | true =>
      rw [show kindOf name = 1 by unfold kindOf; rw [if_pos h1]] at hUe
      rw [show prefS name ⟨#[76, 77, 79, 84, 83, 95]⟩ = true from h1] at PR1
      have pr1 := Lib.hid PR1
      have pr2 := Lib.hid PR2
      have HUE := Aside0.mk hUe
      have CC := fun Bk Bf W h1 h2 h3 h4 => collect_walk Bk Bf 1 4026531840 (by decide) (by decide) W h1 h2 h3 h4
      rw [show codesL 1 4026531840 = codesOf 1 from rfl] at CC
      have CI := fun A cp Bk Bn W h1 h2 h3 h4 => indexF_ans A cp Bk Bn 1 (by decide) name W h1 h2 h3 h4
      have hlen : (codesOf 1).length ≤ 89 := codesL_len _ _
      generalize codesOf 1 = L at *
      generalize ansS 1 name = an at *
      have cc := Lib.hid CC
      have ci := Lib.hid CI
      clear h1 PR1 PR2 hUe CC CI
      go_enter Tryd.func63, Tryd.ntmps63
      go_wp2_with (first
        | (go_at_call 76; refine (c_XmssCodes _).mono ?_; rintro e v ⟨rfl, rfl⟩)
        | (go_at_call 77
           refine (cp.out _).mono ?_
           rintro e v1 ⟨rfl, hb⟩
           have q0 := World.alloc_heap_new w (.cells #[.string name] 9)
           have q1 := World.alloc_heap_new (w.alloc (.cells #[.string name] 9)) (.cells #[.int .i64 3] 3)
           have q2 := World.alloc_heap_new ((w.alloc (.cells #[.string name] 9)).alloc (.cells #[.int .i64 3] 3)) (.cells #[.int .u32 4043309056] 35)
           have q3 := World.alloc_heap_new (((w.alloc (.cells #[.string name] 9)).alloc (.cells #[.int .i64 3] 3)).alloc (.cells #[.int .u32 4043309056] 35)) (.cells #[.int .i64 3] 3)
           simp only [World.size_alloc] at q1 q2 q3
           have HN := Aside0.mk (krow (knew (knew (knew q0))) hb)
           have HX1 := Aside0.mk (krow (knew (knew q1)) hb)
           have HX2 := Aside0.mk (krow (knew q2) hb)
           have HKB := Aside0.mk (krow q3 hb)
           have hcn := blk_cell HN.out 0
           have hck := blk_cell HKB.out 0
           have hfk := blk_free HKB.out 0
           have hz : w.heap.size + 3 < v1.heap.size := by have := hb.size; simp at this; omega
           have HB1 : Aside0 (Below w.heap.size w v1) := ⟨(((((Below.refl _ w).alloc (Nat.le_refl _) (.cells #[.string name] 9)).alloc (by simp) (.cells #[.int .i64 3] 3)).alloc (by simp; omega) (.cells #[.int .u32 4043309056] 35)).alloc (by simp; omega) (.cells #[.int .i64 3] 3)).trans (hb.mono (by simp; omega))⟩
           clear q0 q1 q2 q3 hb)
        | (go_at_call 78
           first
           | (with_reducible refine (pr1.out _).mono ?_
              rintro e v ⟨rfl, hv⟩
              obtain rfl := hv.symm
              clear hv)
           | (with_reducible refine (pr2.out _).mono ?_
              rintro e v ⟨rfl, hv⟩
              obtain rfl := hv.symm
              clear hv))
        | (go_at_call 79
           refine (c_OtsCodes _).mono ?_
           rintro e v ⟨rfl, rfl⟩
           have p4 := World.alloc_heap_new v1 (.cells #[.int .i64 1] 3)
           have p5 := World.alloc_heap_new (v1.alloc (.cells #[.int .i64 1] 3)) (.cells #[.int .u32 4026531840] 35)
           rw [World.size_alloc] at p5
           have HY1 := Aside0.mk (kset (g := w.heap.size + 1 + 1 + 1) (u := .int .i64 1) (knew (o' := .cells #[.int .u32 4026531840] 35) p4) (by omega))
           have HY2 := Aside0.mk (kset (g := w.heap.size + 1 + 1 + 1) (u := .int .i64 1) p5 (by omega))
           have HN1 := Aside0.mk (kset (g := w.heap.size + 1 + 1 + 1) (u := .int .i64 1) (knew (o' := .cells #[.int .u32 4026531840] 35) (knew (o' := .cells #[.int .i64 1] 3) HN.out)) (by omega))
           have HK1 := Aside0.mk (blk_set (knew (o' := .cells #[.int .u32 4026531840] 35) (knew (o' := .cells #[.int .i64 1] 3) HKB.out)) 0 (.int .i64 1))
           have HBs : Aside0 (Below w.heap.size w (((v1.alloc (.cells #[.int .i64 1] 3)).alloc (.cells #[.int .u32 4026531840] 35)).setCell ⟨w.heap.size + 1 + 1 + 1, 0, none⟩ (.int .i64 1))) := ⟨((HB1.out.alloc (by omega) _).alloc (by simp; omega) _).setCell (by show w.heap.size ≤ w.heap.size + 1 + 1 + 1; omega) _⟩
           have hcW : ((v1.alloc (.cells #[.int .i64 1] 3)).alloc (.cells #[.int .u32 4026531840] 35)).cell? ⟨w.heap.size + 1 + 1 + 1, 0, none⟩ = some (.int .i64 3) := blk_cell (knew (o' := .cells #[.int .u32 4026531840] 35) (knew (o' := .cells #[.int .i64 1] 3) HKB.out)) 0
           have hfW : ((v1.alloc (.cells #[.int .i64 1] 3)).alloc (.cells #[.int .u32 4026531840] 35)).frozen? ⟨w.heap.size + 1 + 1 + 1, 0, none⟩ = false := blk_free (knew (o' := .cells #[.int .u32 4026531840] 35) (knew (o' := .cells #[.int .i64 1] 3) HKB.out)) 0
           clear p4  p5)
        | (go_at_call 81
           refine (cc.out v1.heap.size (v1.heap.size + 1) (((v1.alloc (.cells #[.int .i64 1] 3)).alloc (.cells #[.int .u32 4026531840] 35)).setCell ⟨w.heap.size + 1 + 1 + 1, 0, none⟩ (.int .i64 1)) (by simp; omega) (by simp) (blk_cell HY1.out 0) (blk_cell HY2.out 0)).mono ?_
           rintro e v2 ⟨u2, rfl, hr, hb⟩
           obtain ⟨A2, c2, rfl, hl2, hC2⟩ := Kd.R_reads hr
           have HC2 := Aside0.mk hC2
           have HL2 := Aside0.mk hl2
           have HN2 := Aside0.mk (krow HN1.out hb)
           have HK2 := Aside0.mk (krow HK1.out hb)
           have HB2 := Aside0.mk (HBs.out.trans (hb.mono HBs.out.size))
           clear hr hC2 hl2 hb)
        | (go_at_call 82
           refine (ci.out A2 c2 (w.heap.size + 1 + 1 + 1) w.heap.size v2 HC2.out HL2.out (blk_cell HK2.out 0) (blk_cell HN2.out 0)).mono ?_
           rintro e v3 ⟨⟨r, rfl, h⟩, hb⟩
           have HC3 := Aside0.mk (Kd.C_below HC2.out hb)
           have HB3 := Aside0.mk (HB2.out.trans (hb.mono HB2.out.size))
           have hck3 : v3.cell? ⟨w.heap.size + 1 + 1 + 1, 0, none⟩ = some (.int .i64 1) := blk_cell (krow HK2.out hb) 0
           have HH := Aside0.mk h
           clear h hb)
        | fail)
      · have hr : r < 0 := by assumption
        have hU2 : U = (0, 0, 60) := by
          rw [← HUE.out]
          rcases HH.out with ⟨_, ha⟩ | ⟨i, hri, _, _⟩
          · exact ha
          · exact absurd hr (by omega)
        subst hU2
        exact bodyPost_ret (v := .tuple #[.int .i64 0, .int .u32 0, .int .i64 60]) (by simp [results, Tryd.results63, go_sem]) rfl ⟨rfl, HB3.out⟩
      · have hr : 0 ≤ r := by assumption
        obtain ⟨i, hri, hil, ha⟩ := HH.out.resolve_left (fun h => by omega)
        obtain ⟨x, hgx⟩ : ∃ x, L.getD i 0 = x := ⟨_, rfl⟩
        rw [hgx] at ha
        have hU2 : U = (1, x, 0) := by rw [← HUE.out]; exact ha
        subst hU2
        subst hri
        have hti : (i : Int) < (L.length : Int) := by omega
        obtain ⟨ad1, ea1, hx1⟩ := Kd.at_int HC3.out (i : Int) (by omega) hti
        subst ea1
        rw [Int.toNat_natCast] at hx1
        have hn1 : rd L (i : Int) = L.getD i 0 := rfl
        rw [hn1, hgx] at hx1
        clear hn1 ha HH HUE hgx
        go_wp2
        go_quiet (fail)
        go_wp2
        exact bodyPost_ret (v := .tuple #[.int .i64 1, .int .u32 x, .int .i64 0]) (by simp [results, Tryd.results63, go_sem]) rfl ⟨rfl, below_drewN' HB3.out nq⟩
    | false =>
      cases h2 : prefS name pLms with
      | true =>
        rw [show kindOf name = 2 by unfold kindOf; rw [if_neg (by rw [h1]; decide), if_pos h2]] at hUe
        rw [show prefS name ⟨#[76, 77, 79, 84, 83, 95]⟩ = false from h1] at PR1
        rw [show prefS name ⟨#[76, 77, 83, 95]⟩ = true from h2] at PR2
        have pr1 := Lib.hid PR1
        have pr2 := Lib.hid PR2
        have HUE := Aside0.mk hUe
        have CC := fun Bk Bf W h1 h2 h3 h4 => collect_walk Bk Bf 2 4026531840 (by decide) (by decide) W h1 h2 h3 h4
        rw [show codesL 2 4026531840 = codesOf 2 from rfl] at CC
        have CI := fun A cp Bk Bn W h1 h2 h3 h4 => indexF_ans A cp Bk Bn 2 (by decide) name W h1 h2 h3 h4
        have hlen : (codesOf 2).length ≤ 89 := codesL_len _ _
        generalize codesOf 2 = L at *
        generalize ansS 2 name = an at *
        have cc := Lib.hid CC
        have ci := Lib.hid CI
        clear h1 h2 PR1 PR2 hUe CC CI
        go_enter Tryd.func63, Tryd.ntmps63
        go_wp2_with (first
          | (go_at_call 76; refine (c_XmssCodes _).mono ?_; rintro e v ⟨rfl, rfl⟩)
          | (go_at_call 77
             refine (cp.out _).mono ?_
             rintro e v1 ⟨rfl, hb⟩
             have q0 := World.alloc_heap_new w (.cells #[.string name] 9)
             have q1 := World.alloc_heap_new (w.alloc (.cells #[.string name] 9)) (.cells #[.int .i64 3] 3)
             have q2 := World.alloc_heap_new ((w.alloc (.cells #[.string name] 9)).alloc (.cells #[.int .i64 3] 3)) (.cells #[.int .u32 4043309056] 35)
             have q3 := World.alloc_heap_new (((w.alloc (.cells #[.string name] 9)).alloc (.cells #[.int .i64 3] 3)).alloc (.cells #[.int .u32 4043309056] 35)) (.cells #[.int .i64 3] 3)
             simp only [World.size_alloc] at q1 q2 q3
             have HN := Aside0.mk (krow (knew (knew (knew q0))) hb)
             have HX1 := Aside0.mk (krow (knew (knew q1)) hb)
             have HX2 := Aside0.mk (krow (knew q2) hb)
             have HKB := Aside0.mk (krow q3 hb)
             have hcn := blk_cell HN.out 0
             have hck := blk_cell HKB.out 0
             have hfk := blk_free HKB.out 0
             have hz : w.heap.size + 3 < v1.heap.size := by have := hb.size; simp at this; omega
             have HB1 : Aside0 (Below w.heap.size w v1) := ⟨(((((Below.refl _ w).alloc (Nat.le_refl _) (.cells #[.string name] 9)).alloc (by simp) (.cells #[.int .i64 3] 3)).alloc (by simp; omega) (.cells #[.int .u32 4043309056] 35)).alloc (by simp; omega) (.cells #[.int .i64 3] 3)).trans (hb.mono (by simp; omega))⟩
             clear q0 q1 q2 q3 hb)
          | (go_at_call 78
             first
             | (with_reducible refine (pr1.out _).mono ?_
                rintro e v ⟨rfl, hv⟩
                obtain rfl := hv.symm
                clear hv)
             | (with_reducible refine (pr2.out _).mono ?_
                rintro e v ⟨rfl, hv⟩
                obtain rfl := hv.symm
                clear hv))
          | (go_at_call 80
             refine (c_LmsCodes _).mono ?_
             rintro e v ⟨rfl, rfl⟩
             have p4 := World.alloc_heap_new v1 (.cells #[.int .i64 2] 3)
             have p5 := World.alloc_heap_new (v1.alloc (.cells #[.int .i64 2] 3)) (.cells #[.int .u32 4026531840] 35)
             rw [World.size_alloc] at p5
             have HY1 := Aside0.mk (kset (g := w.heap.size + 1 + 1 + 1) (u := .int .i64 2) (knew (o' := .cells #[.int .u32 4026531840] 35) p4) (by omega))
             have HY2 := Aside0.mk (kset (g := w.heap.size + 1 + 1 + 1) (u := .int .i64 2) p5 (by omega))
             have HN1 := Aside0.mk (kset (g := w.heap.size + 1 + 1 + 1) (u := .int .i64 2) (knew (o' := .cells #[.int .u32 4026531840] 35) (knew (o' := .cells #[.int .i64 2] 3) HN.out)) (by omega))
             have HK1 := Aside0.mk (blk_set (knew (o' := .cells #[.int .u32 4026531840] 35) (knew (o' := .cells #[.int .i64 2] 3) HKB.out)) 0 (.int .i64 2))
             have HBs : Aside0 (Below w.heap.size w (((v1.alloc (.cells #[.int .i64 2] 3)).alloc (.cells #[.int .u32 4026531840] 35)).setCell ⟨w.heap.size + 1 + 1 + 1, 0, none⟩ (.int .i64 2))) := ⟨((HB1.out.alloc (by omega) _).alloc (by simp; omega) _).setCell (by show w.heap.size ≤ w.heap.size + 1 + 1 + 1; omega) _⟩
             have hcW : ((v1.alloc (.cells #[.int .i64 2] 3)).alloc (.cells #[.int .u32 4026531840] 35)).cell? ⟨w.heap.size + 1 + 1 + 1, 0, none⟩ = some (.int .i64 3) := blk_cell (knew (o' := .cells #[.int .u32 4026531840] 35) (knew (o' := .cells #[.int .i64 2] 3) HKB.out)) 0
             have hfW : ((v1.alloc (.cells #[.int .i64 2] 3)).alloc (.cells #[.int .u32 4026531840] 35)).frozen? ⟨w.heap.size + 1 + 1 + 1, 0, none⟩ = false := blk_free (knew (o' := .cells #[.int .u32 4026531840] 35) (knew (o' := .cells #[.int .i64 2] 3) HKB.out)) 0
             clear p4 p5)
          | (go_at_call 81
             refine (cc.out v1.heap.size (v1.heap.size + 1) (((v1.alloc (.cells #[.int .i64 2] 3)).alloc (.cells #[.int .u32 4026531840] 35)).setCell ⟨w.heap.size + 1 + 1 + 1, 0, none⟩ (.int .i64 2)) (by simp; omega) (by simp) (blk_cell HY1.out 0) (blk_cell HY2.out 0)).mono ?_
             rintro e v2 ⟨u2, rfl, hr, hb⟩
             obtain ⟨A2, c2, rfl, hl2, hC2⟩ := Kd.R_reads hr
             have HC2 := Aside0.mk hC2
             have HL2 := Aside0.mk hl2
             have HN2 := Aside0.mk (krow HN1.out hb)
             have HK2 := Aside0.mk (krow HK1.out hb)
             have HB2 := Aside0.mk (HBs.out.trans (hb.mono HBs.out.size))
             clear hr hC2 hl2 hb)
          | (go_at_call 82
             refine (ci.out A2 c2 (w.heap.size + 1 + 1 + 1) w.heap.size v2 HC2.out HL2.out (blk_cell HK2.out 0) (blk_cell HN2.out 0)).mono ?_
             rintro e v3 ⟨⟨r, rfl, h⟩, hb⟩
             have HC3 := Aside0.mk (Kd.C_below HC2.out hb)
             have HB3 := Aside0.mk (HB2.out.trans (hb.mono HB2.out.size))
             have hck3 : v3.cell? ⟨w.heap.size + 1 + 1 + 1, 0, none⟩ = some (.int .i64 2) := blk_cell (krow HK2.out hb) 0
             have HH := Aside0.mk h
             clear h hb)
          | fail)
        · have hr : r < 0 := by assumption
          have hU2 : U = (0, 0, 60) := by
            rw [← HUE.out]
            rcases HH.out with ⟨_, ha⟩ | ⟨i, hri, _, _⟩
            · exact ha
            · exact absurd hr (by omega)
          subst hU2
          exact bodyPost_ret (v := .tuple #[.int .i64 0, .int .u32 0, .int .i64 60]) (by simp [results, Tryd.results63, go_sem]) rfl ⟨rfl, HB3.out⟩
        · have hr : 0 ≤ r := by assumption
          obtain ⟨i, hri, hil, ha⟩ := HH.out.resolve_left (fun h => by omega)
          obtain ⟨x, hgx⟩ : ∃ x, L.getD i 0 = x := ⟨_, rfl⟩
          rw [hgx] at ha
          have hU2 : U = (2, x, 0) := by rw [← HUE.out]; exact ha
          subst hU2
          subst hri
          have hti : (i : Int) < (L.length : Int) := by omega
          obtain ⟨ad1, ea1, hx1⟩ := Kd.at_int HC3.out (i : Int) (by omega) hti
          subst ea1
          rw [Int.toNat_natCast] at hx1
          have hn1 : rd L (i : Int) = L.getD i 0 := rfl
          rw [hn1, hgx] at hx1
          clear hn1 ha HH HUE hgx
          go_wp2
          go_quiet (fail)
          go_wp2
          exact bodyPost_ret (v := .tuple #[.int .i64 2, .int .u32 x, .int .i64 0]) (by simp [results, Tryd.results63, go_sem]) rfl ⟨rfl, below_drewN' HB3.out nq⟩
      | false =>
        rw [show kindOf name = 3 by unfold kindOf; rw [if_neg (by rw [h1]; decide), if_neg (by rw [h2]; decide)]] at hUe
        rw [show prefS name ⟨#[76, 77, 79, 84, 83, 95]⟩ = false from h1] at PR1
        rw [show prefS name ⟨#[76, 77, 83, 95]⟩ = false from h2] at PR2
        have pr1 := Lib.hid PR1
        have pr2 := Lib.hid PR2
        have HUE := Aside0.mk hUe
        have CC := fun Bk Bf W h1 h2 h3 h4 => collect_walk Bk Bf 3 4043309056 (by decide) (by decide) W h1 h2 h3 h4
        rw [show codesL 3 4043309056 = codesOf 3 from rfl] at CC
        have CI := fun A cp Bk Bn W h1 h2 h3 h4 => indexF_ans A cp Bk Bn 3 (by decide) name W h1 h2 h3 h4
        have hlen : (codesOf 3).length ≤ 89 := codesL_len _ _
        generalize codesOf 3 = L at *
        generalize ansS 3 name = an at *
        have cc := Lib.hid CC
        have ci := Lib.hid CI
        clear h1 h2 PR1 PR2 hUe CC CI
        go_enter Tryd.func63, Tryd.ntmps63
        go_wp2_with (first
          | (go_at_call 76; refine (c_XmssCodes _).mono ?_; rintro e v ⟨rfl, rfl⟩)
          | (go_at_call 77
             refine (cp.out _).mono ?_
             rintro e v1 ⟨rfl, hb⟩
             have q0 := World.alloc_heap_new w (.cells #[.string name] 9)
             have q1 := World.alloc_heap_new (w.alloc (.cells #[.string name] 9)) (.cells #[.int .i64 3] 3)
             have q2 := World.alloc_heap_new ((w.alloc (.cells #[.string name] 9)).alloc (.cells #[.int .i64 3] 3)) (.cells #[.int .u32 4043309056] 35)
             have q3 := World.alloc_heap_new (((w.alloc (.cells #[.string name] 9)).alloc (.cells #[.int .i64 3] 3)).alloc (.cells #[.int .u32 4043309056] 35)) (.cells #[.int .i64 3] 3)
             simp only [World.size_alloc] at q1 q2 q3
             have HN := Aside0.mk (krow (knew (knew (knew q0))) hb)
             have HX1 := Aside0.mk (krow (knew (knew q1)) hb)
             have HX2 := Aside0.mk (krow (knew q2) hb)
             have HKB := Aside0.mk (krow q3 hb)
             have hcn := blk_cell HN.out 0
             have hck := blk_cell HKB.out 0
             have hfk := blk_free HKB.out 0
             have hz : w.heap.size + 3 < v1.heap.size := by have := hb.size; simp at this; omega
             have HB1 : Aside0 (Below w.heap.size w v1) := ⟨(((((Below.refl _ w).alloc (Nat.le_refl _) (.cells #[.string name] 9)).alloc (by simp) (.cells #[.int .i64 3] 3)).alloc (by simp; omega) (.cells #[.int .u32 4043309056] 35)).alloc (by simp; omega) (.cells #[.int .i64 3] 3)).trans (hb.mono (by simp; omega))⟩
             clear q0 q1 q2 q3 hb)
          | (go_at_call 78
             first
             | (with_reducible refine (pr1.out _).mono ?_
                rintro e v ⟨rfl, hv⟩
                obtain rfl := hv.symm
                clear hv)
             | (with_reducible refine (pr2.out _).mono ?_
                rintro e v ⟨rfl, hv⟩
                obtain rfl := hv.symm
                clear hv))
          | (go_at_call 81
             refine (cc.out (w.heap.size + 1) (w.heap.size + 1 + 1) v1 (by omega) (by omega) (blk_cell HX1.out 0) (blk_cell HX2.out 0)).mono ?_
             rintro e v2 ⟨u2, rfl, hr, hb⟩
             obtain ⟨A2, c2, rfl, hl2, hC2⟩ := Kd.R_reads hr
             have HC2 := Aside0.mk hC2
             have HL2 := Aside0.mk hl2
             have HN2 := Aside0.mk (krow HN.out hb)
             have HK2 := Aside0.mk (krow HKB.out hb)
             have HB2 := Aside0.mk (HB1.out.trans (hb.mono HB1.out.size))
             clear hr hC2 hl2 hb)
          | (go_at_call 82
             refine (ci.out A2 c2 (w.heap.size + 1 + 1 + 1) w.heap.size v2 HC2.out HL2.out (blk_cell HK2.out 0) (blk_cell HN2.out 0)).mono ?_
             rintro e v3 ⟨⟨r, rfl, h⟩, hb⟩
             have HC3 := Aside0.mk (Kd.C_below HC2.out hb)
             have HB3 := Aside0.mk (HB2.out.trans (hb.mono HB2.out.size))
             have hck3 : v3.cell? ⟨w.heap.size + 1 + 1 + 1, 0, none⟩ = some (.int .i64 3) := blk_cell (krow HK2.out hb) 0
             have HH := Aside0.mk h
             clear h hb)
          | fail)
        · have hr : r < 0 := by assumption
          have hU2 : U = (0, 0, 60) := by
            rw [← HUE.out]
            rcases HH.out with ⟨_, ha⟩ | ⟨i, hri, _, _⟩
            · exact ha
            · exact absurd hr (by omega)
          subst hU2
          exact bodyPost_ret (v := .tuple #[.int .i64 0, .int .u32 0, .int .i64 60]) (by simp [results, Tryd.results63, go_sem]) rfl ⟨rfl, HB3.out⟩
        · have hr : 0 ≤ r := by assumption
          obtain ⟨i, hri, hil, ha⟩ := HH.out.resolve_left (fun h => by omega)
          obtain ⟨x, hgx⟩ : ∃ x, L.getD i 0 = x := ⟨_, rfl⟩
          rw [hgx] at ha
          have hU2 : U = (3, x, 0) := by rw [← HUE.out]; exact ha
          subst hU2
          subst hri
          have hti : (i : Int) < (L.length : Int) := by omega
          obtain ⟨ad1, ea1, hx1⟩ := Kd.at_int HC3.out (i : Int) (by omega) hti
          subst ea1
          rw [Int.toNat_natCast] at hx1
          have hn1 : rd L (i : Int) = L.getD i 0 := rfl
          rw [hn1, hgx] at hx1
          clear hn1 ha HH HUE hgx
          go_wp2
          go_quiet (fail)
          go_wp2
          exact bodyPost_ret (v := .tuple #[.int .i64 3, .int .u32 x, .int .i64 0]) (by simp [results, Tryd.results63, go_sem]) rfl ⟨rfl, below_drewN' HB3.out nq⟩
end Go.Proofs.YtpdinahdcedmkaaDoor.ExtP
/- liveryref06.Name returns the name of a kind and code. -/
namespace Go.Proofs.YtpdinahdcedmkaaDoor.ExtP
open Go.Proofs.YtpdinahdcedmkaaDoor.Ext hiding blk_cell blk_set
set_option linter.unusedVariables false
open Go.RowKit Go.Proofs.YtpdinahdcedmkaaDoorW.PrintWords Go.Proofs.YtpdinahdcedmkaaDoor.Spec

theorem strOfNums_size (l : List Int) : (strOfNums l).size = l.length := by
  show (strOfNums l).data.size = _
  rw [← Array.length_toList, strOfNums_data, List.length_map]
end Go.Proofs.YtpdinahdcedmkaaDoor.ExtP
