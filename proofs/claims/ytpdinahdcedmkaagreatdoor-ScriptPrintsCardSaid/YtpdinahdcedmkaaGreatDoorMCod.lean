import Derived.RangeFuncNested
import Derived.RangeFuncBound
import Derived.RangeFuncCalls
import Derived.RangeFuncLeaves
import Derived.RangeFuncBox
import Derived.Shelf.Abstract
import Derived.Shelf.RegionOpen
import Derived.OwnWalkIn
import Derived.TacticsInMore
import Derived.LoopNIn
import Derived.LoopIn
import Derived.Test.YtpdinahdcedmkaaGreatDoorPVals
import Derived.Maps.AppendAt
import Derived.Test.YtpdinahdcedmkaaGreatDoorMOts
import Derived.Test.YtpdinahdcedmkaaGreatDoorRVals
import Derived.Test.YtpdinahdcedmkaaGreatDoorMPName
import Derived.Lib.OthersKept
import Derived.Lib.RuneCount
import Derived.Lib.Hide
import Derived.Deep.RegionWith
/- param.codes: the iterator over the codes of a kind: it hands out all of them in their order, or a beginning of them. -/
namespace Go.Proofs.YtpdinahdcedmkaaGreatDoor.ExtP
open Go.Proofs.YtpdinahdcedmkaaGreatDoor.Ext
set_option linter.unusedVariables false
open Go.RowKit Go.Shelf Go.Proofs.YtpdinahdcedmkaaGreatDoorW.PrintWords Go.Proofs.YtpdinahdcedmkaaGreatDoorW.PrintLast Go.Proofs.YtpdinahdcedmkaaGreatDoorW.PrintMore Go.Proofs.YtpdinahdcedmkaaGreatDoor.Spec
attribute [local go_sem] Oper.semAt_some

end Go.Proofs.YtpdinahdcedmkaaGreatDoor.ExtP
/- liverylaw06.told, codes: the codes of a kind as the program tells them, at most so many; slices.Equal, Contains, IsSorted. -/
namespace Go.Proofs.YtpdinahdcedmkaaGreatDoor.ExtP
open Go.Proofs.YtpdinahdcedmkaaGreatDoor.Ext
set_option linter.unusedVariables false
open Go.RowKit Go.Shelf Go.Proofs.YtpdinahdcedmkaaGreatDoorW.PrintWords Go.Proofs.YtpdinahdcedmkaaGreatDoorW.PrintLast Go.Proofs.YtpdinahdcedmkaaGreatDoorW.PrintMore Go.Proofs.YtpdinahdcedmkaaGreatDoor.Spec
attribute [local go_sem] Oper.semAt_some

end Go.Proofs.YtpdinahdcedmkaaGreatDoor.ExtP
/- liverylaw06.codes and liveryref06.Codes: the codes of a kind; slices.Equal. -/
namespace Go.Proofs.YtpdinahdcedmkaaGreatDoor.ExtP
open Go.Proofs.YtpdinahdcedmkaaGreatDoor.Ext
set_option linter.unusedVariables false
open Go.RowKit Go.Proofs.YtpdinahdcedmkaaGreatDoorW.PrintWords Go.Proofs.YtpdinahdcedmkaaGreatDoorW.PrintLast Go.Proofs.YtpdinahdcedmkaaGreatDoorW.PrintMore Go.Proofs.YtpdinahdcedmkaaGreatDoor.Spec

/-! ### the document's side -/
set_option maxHeartbeats 1000000 in
set_option maxRecDepth 100000 in
theorem r_Is (k c : Int) (w : World) (g0 : 0 ≤ c) (g1 : c < 4294967296) :
    Calls Tryz.prog 116 #[.int .i64 k, .int .u32 c] w fun e w' => e = .returned (.bool (known k c)) ∧ Below w.heap.size w w' := by
  by_cases h1 : k = 1
  · subst h1
    rw [show known 1 c = ((ots c).2 == 0) from rfl]
    have Co := fun w => r_Ots c w g0 g1
    have co := Lib.hid Co; clear Co
    go_enter Tryz.func116, Tryz.ntmps116
    go_wp2_with (first
      | (go_at_call 117; refine (co.out _).mono ?_; rintro e w1 ⟨rfl, hb⟩))
    go_ret
    exact ⟨rfl, hb⟩
  by_cases h2 : k = 2
  · subst h2
    rw [show known 2 c = ((lms c).2 == 0) from rfl]
    have Co := fun w => r_Lms c w g0 g1
    have co := Lib.hid Co; clear Co
    go_enter Tryz.func116, Tryz.ntmps116
    go_wp2_with (first
      | (go_at_call 118; refine (co.out _).mono ?_; rintro e w1 ⟨rfl, hb⟩))
    go_ret
    exact ⟨rfl, hb⟩
  by_cases h3 : k = 3
  · subst h3
    rw [show known 3 c = ((xms c).2 == 0) from rfl]
    have Co := fun w => r_Xmss c w g0 g1
    have co := Lib.hid Co; clear Co
    go_enter Tryz.func116, Tryz.ntmps116
    go_wp2_with (first
      | (go_at_call 114; refine (co.out _).mono ?_; rintro e w1 ⟨rfl, hb⟩))
    go_ret
    exact ⟨rfl, hb⟩
  have hk : known k c = false := by unfold known; rw [if_neg h1, if_neg h2, if_neg h3]
  rw [hk]
  clear hk
  have t1 : (k == 1) = false := beq_eq_false_iff_ne.2 h1
  have t2 : (k == 2) = false := beq_eq_false_iff_ne.2 h2
  have t3 : (k == 3) = false := beq_eq_false_iff_ne.2 h3
  go_enter Tryz.func116, Tryz.ntmps116
  go_wp2
  go_ret
  exact ⟨rfl, Below.refl _ _⟩
end Go.Proofs.YtpdinahdcedmkaaGreatDoor.ExtP
/- slices.Equal, Index, Contains, IsSorted of []uint32. -/
namespace Go.Proofs.YtpdinahdcedmkaaGreatDoor.ExtP
open Go.Proofs.YtpdinahdcedmkaaGreatDoor.Ext
set_option linter.unusedVariables false
open Go.RowKit Go.Proofs.YtpdinahdcedmkaaGreatDoorW.PrintWords Go.Proofs.YtpdinahdcedmkaaGreatDoorW.PrintLast Go.Proofs.YtpdinahdcedmkaaGreatDoorW.PrintMore

theorem below_drewN' {b : Nat} {w w' : World} (h : Below b w w') (n : Nat) : Below b w (w'.drewN n) := pw_below_drewN h n
theorem take_snoc (l : List Int) (i : Nat) (hi : i < l.length) : l.take (i + 1) = l.take i ++ [l.getD i 0] := by
  rw [List.take_add_one, List.getD_eq_getElem?_getD, List.getElem?_eq_getElem hi]
  rfl
end Go.Proofs.YtpdinahdcedmkaaGreatDoor.ExtP
/- param.plain, strings.HasPrefix, slices.Collect of the codes. -/
namespace Go.Proofs.YtpdinahdcedmkaaGreatDoor.ExtP
open Go.Proofs.YtpdinahdcedmkaaGreatDoor.Ext
set_option linter.unusedVariables false
open Go.RowKit Go.Shelf Go.Proofs.YtpdinahdcedmkaaGreatDoorW.PrintWords Go.Proofs.YtpdinahdcedmkaaGreatDoorW.PrintLast Go.Proofs.YtpdinahdcedmkaaGreatDoorW.PrintMore Go.Proofs.YtpdinahdcedmkaaGreatDoor.Spec

def rns (s : ByteArray) : Nat → Nat → List Nat
  | 0, _ => []
  | f + 1, pos => if pos < s.size then (Utf8.decode s pos).1 :: rns s f (pos + (Utf8.decode s pos).2) else []
theorem rns_end (s : ByteArray) (f pos : Nat) (h : ¬ pos < s.size) : rns s f pos = [] := by
  cases f with
  | zero => rfl
  | succ f => simp [rns, h]
theorem rns_step (s : ByteArray) (f pos : Nat) (h : pos < s.size) (hf : s.size ≤ pos + f) : ∃ f', s.size ≤ (pos + (Utf8.decode s pos).2) + f' ∧ rns s f pos = (Utf8.decode s pos).1 :: rns s f' (pos + (Utf8.decode s pos).2) := by
  cases f with
  | zero => omega
  | succ f =>
    have := Lib.decode_width_pos s pos h
    exact ⟨f, by omega, by simp [rns, h]⟩
theorem iter_new (w : World) (s : ByteArray) : (w.iter s 0).heap[w.heap.size]? = some (.stringIter s 0) := World.iter_heap w s 0
theorem iter_less {w : World} {k : Nat} {s : ByteArray} {pos d : Nat} (hd : 1 ≤ d) (hit : w.heap[k]? = some (.stringIter s pos)) (hp : pos < s.size) : s.size - (w.iterAt k s (pos + d)).iterPos k < s.size - w.iterPos k := by
  have h1 := Lib.iterAt_heap w k s pos (pos + d) hit
  unfold World.iterPos
  rw [h1, hit]
  simp only
  omega
theorem below_iter (w : World) (s : ByteArray) : Below w.heap.size w (w.iter s 0) := (Below.refl _ _).alloc (Nat.le_refl _) _
theorem iterPos_at {w : World} {k pos : Nat} {s : ByteArray} (h : w.heap[k]? = some (.stringIter s pos)) : w.iterPos k = pos := by unfold World.iterPos; rw [h]
theorem str_ne {a b : ByteArray} (h : a ≠ b) : (a.toList == b.toList) = false := by
  rw [beq_eq_false_iff_ne, ByteArray.toList_eq, ByteArray.toList_eq]
  exact fun e => h (Go.WideShapes.bytes_inj e)
end Go.Proofs.YtpdinahdcedmkaaGreatDoor.ExtP
/- param.Code: the kind and the code of a name. -/
namespace Go.Proofs.YtpdinahdcedmkaaGreatDoor.ExtP
open Go.Proofs.YtpdinahdcedmkaaGreatDoor.Ext hiding blk_cell blk_set
set_option linter.unusedVariables false
open Go.RowKit Go.Shelf Go.Proofs.YtpdinahdcedmkaaGreatDoorW.PrintWords Go.Proofs.YtpdinahdcedmkaaGreatDoorW.PrintLast Go.Proofs.YtpdinahdcedmkaaGreatDoorW.PrintMore Go.Proofs.YtpdinahdcedmkaaGreatDoor.Spec
attribute [local go_sem] Oper.semAt_some

theorem krow {W v : World} {b : Nat} {o : Obj} (h : W.heap[b]? = some o) (hb : Below W.heap.size W v) : v.heap[b]? = some o := (hb.block b (Array.getElem?_eq_some_iff.1 h).1).trans h
theorem knew {W : World} {b : Nat} {o o' : Obj} (h : W.heap[b]? = some o) : (W.alloc o').heap[b]? = some o := (Below.heap_alloc W o' b (Array.getElem?_eq_some_iff.1 h).1).trans h
end Go.Proofs.YtpdinahdcedmkaaGreatDoor.ExtP
/- liveryref06.Name returns the name of a kind and code. -/
namespace Go.Proofs.YtpdinahdcedmkaaGreatDoor.ExtP
open Go.Proofs.YtpdinahdcedmkaaGreatDoor.Ext hiding blk_cell blk_set
set_option linter.unusedVariables false
open Go.RowKit Go.Proofs.YtpdinahdcedmkaaGreatDoorW.PrintWords Go.Proofs.YtpdinahdcedmkaaGreatDoor.Spec

theorem strOfNums_append (a b : List Int) : strOfNums (a ++ b) = strOfNums a ++ strOfNums b := by
  apply ByteArray.ext
  rw [← Array.toList_inj, ByteArray.data_append, Array.toList_append, strOfNums_data, strOfNums_data, strOfNums_data, List.map_append]
theorem sl_dig (x : Int) (h0 : 0 ≤ x) (h1 : x < 10) : ∀ W, (Instr.slice 9 (.string ⟨#[48, 49, 50, 51, 52, 53, 54, 55, 56, 57, 97, 98, 99, 100, 101, 102]⟩) (some (.int .u64 x)) (some (.int .u64 (x + 1))) none).run Tryz.prog W = .ok (.string (strOfNums [48 + x])) W := by
  intro W
  obtain rfl | rfl | rfl | rfl | rfl | rfl | rfl | rfl | rfl | rfl : x = 0 ∨ x = 1 ∨ x = 2 ∨ x = 3 ∨ x = 4 ∨ x = 5 ∨ x = 6 ∨ x = 7 ∨ x = 8 ∨ x = 9 := by omega
  all_goals (simp [Instr.slice, run_underlying Tryz.underlying9, go_sem]; rfl)
theorem strOfNums_size (l : List Int) : (strOfNums l).size = l.length := by
  show (strOfNums l).data.size = _
  rw [← Array.length_toList, strOfNums_data, List.length_map]
theorem u64w (x : Int) (h : 0 ≤ x ∧ x ≤ 18446744073709551615) : IntKind.u64.wrap x = x := by rw [IntKind.wrap_u64]; omega
set_option maxHeartbeats 2000000 in
set_option maxRecDepth 100000 in
theorem r_Dec (n : Nat) (w : World) (hn : n < 18446744073709551616) :
    Calls Tryz.prog 115 #[.int .u64 n] w fun e w' => e = .returned (.string (strOfNums (decL n))) ∧ w' = w := by
  go_enter Tryz.func115, Tryz.ntmps115
  have hs0 := sl_dig ((n : Int) % 10) (by omega) (by omega)
  have hlen := decL_len 19 n (by omega)
  go_wp2
  go_loopw [0, 3] (fun v0 v3 wr => ∃ (m : Nat) (S : List Int), v0 = .int .u64 (m : Int) ∧ v3 = .string (strOfNums ([48 + (m : Int) % 10] ++ S)) ∧ Aside0 (decL n = decL m ++ S ∧ m < 18446744073709551616) ∧ wr = w) (fun v0 _ _ => (intOf v0).toNat)
  case atStart => exact ⟨n, [], rfl, rfl, ⟨by simp, hn⟩, rfl⟩
  case round =>
    obtain ⟨m, S, rfl, rfl, hR, rfl⟩ := hrel
    have hm64 := hR.out.2
    have hSl : S.length ≤ 20 := by have := congrArg List.length hR.out.1; rw [List.length_append] at this; omega
    by_cases h10 : m < 10
    · have hq : ¬ (10 : Int) ≤ (m : Int) := by omega
      have hE : Aside0 (strOfNums ([48 + (m : Int) % 10] ++ S) = strOfNums (decL n)) := ⟨by
        rw [hR.out.1, decL_lt h10]
        congr 3
        omega⟩
      clear hs0 h10
      go_wp2
      go_ret
      exact ⟨by first | rw [hE.out] | (have := hE.out; simp at this ⊢; exact this), rfl⟩
    · have hq : (10 : Int) ≤ (m : Int) := by omega
      have hs1 := sl_dig ((m / 10 : Nat) % 10 : Int) (by omega) (by omega)
      have hw1 : IntKind.u64.wrap ((m : Int) / 10) = ((m / 10 : Nat) : Int) := by rw [u64w _ (by omega)]; omega
      have hS : Aside0 (decL n = decL (m / 10) ++ ([48 + (m : Int) % 10] ++ S) ∧ m / 10 < 18446744073709551616) := ⟨by rw [hR.out.1, decL_ge h10, List.append_assoc]; norm_cast, by omega⟩
      have hsz : (strOfNums [48 + ((m / 10 : Nat) : Int) % 10]).size + (strOfNums ([48 + (m : Int) % 10] ++ S)).size ≤ 9223372036854775807 := by rw [strOfNums_size, strOfNums_size]; simp; omega
      have hsa := fun W => run_string_add_sum (P := Tryz.prog) W (strOfNums [48 + ((m / 10 : Nat) : Int) % 10]) (strOfNums ([48 + (m : Int) % 10] ++ S)) hsz
      rw [← strOfNums_append] at hsa
      have hlt : m / 10 < m := by omega
      generalize hx : [48 + (m : Int) % 10] ++ S = X at *
      have HX := Aside0.mk hx
      clear hx hs0 hsz
      generalize hmm : m / 10 = m2 at *
      have HM := Aside0.mk hmm
      clear hmm
      push_cast at *
      go_wp2
      go_roundw
      case rel => exact ⟨m2, X, rfl, rfl, hS, trivial⟩
      case measure => simp [intOf]; omega
set_option maxHeartbeats 1000000 in
theorem r_digS (n : Int) (w : World) (h0 : 0 ≤ n) (h1 : n < 9223372036854775808) :
    Calls Tryz.prog 120 #[.int .i64 n] w fun e w' => e = .returned (.string (decS n)) ∧ Below w.heap.size w w' := by
  obtain ⟨m, rfl⟩ := Int.eq_ofNat_of_zero_le h0
  have Co := fun w => r_Dec m w (by omega)
  have e : decS (m : Int) = strOfNums (decL m) := by unfold decS; rw [Int.toNat_natCast]
  rw [e]
  have co := Lib.hid Co; clear Co e
  have hw : IntKind.u64.wrap (m : Int) = (m : Int) := u64w _ (by omega)
  go_enter Tryz.func120, Tryz.ntmps120
  go_wp2_with (first | (go_at_call 115; refine (co.out _).mono ?_; rintro e v ⟨rfl, rfl⟩) | fail)
  go_ret
  exact ⟨rfl, Below.refl _ _⟩
set_option maxHeartbeats 1000000 in
theorem r_pick (b : Bool) (s t : ByteArray) (w : World) :
    Calls Tryz.prog 119 #[.bool b, .string s, .string t] w fun e w' => e = .returned (.string (if b = true then s else t)) ∧ w' = w := by
  cases b
  all_goals
    go_enter Tryz.func119, Tryz.ntmps119
    go_wp2
    go_ret
    exact ⟨rfl, rfl⟩
theorem r_sumS (b : Bool) (w : World) :
    Calls Tryz.prog 119 #[.bool b, .string ⟨#[83, 72, 65, 75, 69]⟩, .string ⟨#[83, 72, 65, 50, 53, 54]⟩] w fun e w' => e = .returned (.string (sumS b)) ∧ w' = w := r_pick b _ _ w
theorem r_sumX (b : Bool) (w : World) :
    Calls Tryz.prog 119 #[.bool b, .string (⟨#[83, 72, 65, 75, 69, 50, 53, 54]⟩ : ByteArray), .string (⟨#[83, 72, 65, 50]⟩ : ByteArray)] w fun e w' => e = .returned (.string (sumX b)) ∧ w' = w := r_pick b _ _ w
set_option maxHeartbeats 2000000 in
set_option maxRecDepth 100000 in
theorem rname1 (c : Int) (w : World) (g0 : 0 ≤ c) (g1 : c < 4294967296) (o : OtsR) (ho : ots c = (o, 0)) (n0 : 0 ≤ o.n) (n1 : o.n < 100000) (w0 : 0 ≤ o.w) (w1 : o.w < 100000) :
    Calls Tryz.prog 76 #[.int .i64 1, .int .u32 c] w fun e w' => e = .returned (.string (name1S o)) ∧ Below w.heap.size w w' := by
  unfold name1S
  have Ck := fun w => r_Is 1 c w g0 g1
  rw [show known 1 c = true by unfold known; rw [ho]; rfl] at Ck
  have Cots := fun w => r_Ots c w g0 g1
  have Clms := fun w => r_Lms c w g0 g1
  have Cxmss := fun w => r_Xmss c w g0 g1
  rw [ho] at Cots
  generalize lms c = qLms at *
  obtain ⟨⟨b0, b1, b2, b3⟩, eb⟩ := qLms
  generalize xms c = qXmss at *
  obtain ⟨⟨d0, d1, d2, d3, d4⟩, ed⟩ := qXmss
  have Cn := fun w => r_digS o.n w n0 (by omega)
  have Cw := fun w => r_digS (o.w) w (by omega) (by omega)
  have Cs := fun w => r_sumS o.shake w
  have z1 := decS_size o.n n0 (by omega)
  have z2 := decS_size (o.w) (by omega) (by omega)
  have z3 := sumS_size o.shake
  obtain ⟨code, shake, nn, ww, p, ls⟩ := o
  simp only [OtsR.enc, LmsR.enc, XmsR.enc] at *
  have ck := Lib.hid Ck; have cots := Lib.hid Cots; have clms := Lib.hid Clms; have cxmss := Lib.hid Cxmss; have cn := Lib.hid Cn; have cw := Lib.hid Cw; have cs := Lib.hid Cs; clear Ck Cots Clms Cxmss Cn Cw Cs ho
  go_enter Tryz.func76, Tryz.ntmps76
  go_wp2_with (first
      | (go_at_call 116; refine (ck.out _).mono ?_; rintro e v1 ⟨rfl, hb1⟩)
      | (go_at_call 117; refine (cots.out _).mono ?_; rintro e v2 ⟨rfl, hb2⟩; have HB2 := Aside0.mk (below_step hb1 hb2); clear hb1 hb2)
      | (go_at_call 118; refine (clms.out _).mono ?_; rintro e v3 ⟨rfl, hb3⟩; have HR := Aside0.mk (krow (World.alloc_heap_new v2 (Obj.cells #[.int .u32 code, .bool shake, .int .i64 nn, .int .i64 ww, .int .i64 p, .int .i64 ls] 140)) hb3); have HB3 : Aside0 (Below w.heap.size w v3) := ⟨(HB2.out.alloc HB2.out.size _).trans (hb3.mono (by have := HB2.out.size; simp; omega))⟩; clear hb3)
      | (go_at_call 114; refine (cxmss.out _).mono ?_; rintro e v4 ⟨rfl, hb4⟩; replace HR := Aside0.mk (krow (knew (o' := (Obj.cells #[.int .u32 b0, .bool b1, .int .i64 b2, .int .i64 b3] 144)) HR.out) hb4); have HB : Aside0 (Below w.heap.size w v4) := ⟨(HB3.out.alloc HB3.out.size _).trans (hb4.mono (by have := HB3.out.size; simp; omega))⟩; clear hb4)
      | fail)
  have HR := Aside0.mk (knew (o' := (Obj.cells #[.int .u32 d0, .bool d1, .int .i64 d2, .int .i64 d3, .int .i64 d4] 128)) HR.out)
  have hv1 := blk_cell HR.out 1
  have hv2 := blk_cell HR.out 2
  have hv3 := blk_cell HR.out 3
  have hvz := World.block_lt_of_cell? _ _ hv1
  simp only at hvz
  have f1 : 6 + (sumS shake).size ≤ 9223372036854775807 := by omega
  have k1 := fun W => run_string_add_sum (P := Tryz.prog) W ((⟨#[76, 77, 79, 84, 83, 95]⟩ : ByteArray)) (sumS shake) f1
  have f2 : ((⟨#[76, 77, 79, 84, 83, 95]⟩ : ByteArray) ++ sumS shake).size + 2 ≤ 9223372036854775807 := by rw [ByteArray.size_append]; show 6 + _ + 2 ≤ _; omega
  have k2 := fun W => run_string_add_sum (P := Tryz.prog) W (((⟨#[76, 77, 79, 84, 83, 95]⟩ : ByteArray) ++ sumS shake)) ((⟨#[95, 78]⟩ : ByteArray)) f2
  have f3 : (((⟨#[76, 77, 79, 84, 83, 95]⟩ : ByteArray) ++ sumS shake) ++ (⟨#[95, 78]⟩ : ByteArray)).size + (decS nn).size ≤ 9223372036854775807 := by rw [ByteArray.size_append, ByteArray.size_append]; show 6 + _ + 2 + _ ≤ _; omega
  have k3 := fun W => run_string_add_sum (P := Tryz.prog) W ((((⟨#[76, 77, 79, 84, 83, 95]⟩ : ByteArray) ++ sumS shake) ++ (⟨#[95, 78]⟩ : ByteArray))) (decS nn) f3
  have f4 : ((((⟨#[76, 77, 79, 84, 83, 95]⟩ : ByteArray) ++ sumS shake) ++ (⟨#[95, 78]⟩ : ByteArray)) ++ decS nn).size + 2 ≤ 9223372036854775807 := by rw [ByteArray.size_append, ByteArray.size_append, ByteArray.size_append]; show 6 + _ + 2 + _ + 2 ≤ _; omega
  have k4 := fun W => run_string_add_sum (P := Tryz.prog) W (((((⟨#[76, 77, 79, 84, 83, 95]⟩ : ByteArray) ++ sumS shake) ++ (⟨#[95, 78]⟩ : ByteArray)) ++ decS nn)) ((⟨#[95, 87]⟩ : ByteArray)) f4
  have f5 : (((((⟨#[76, 77, 79, 84, 83, 95]⟩ : ByteArray) ++ sumS shake) ++ (⟨#[95, 78]⟩ : ByteArray)) ++ decS nn) ++ (⟨#[95, 87]⟩ : ByteArray)).size + (decS ww).size ≤ 9223372036854775807 := by rw [ByteArray.size_append, ByteArray.size_append, ByteArray.size_append, ByteArray.size_append]; show 6 + _ + 2 + _ + 2 + _ ≤ _; omega
  have k5 := fun W => run_string_add_sum (P := Tryz.prog) W ((((((⟨#[76, 77, 79, 84, 83, 95]⟩ : ByteArray) ++ sumS shake) ++ (⟨#[95, 78]⟩ : ByteArray)) ++ decS nn) ++ (⟨#[95, 87]⟩ : ByteArray))) (decS ww) f5
  clear f1 f2 f3 f4 f5
  go_region_held3 (fun W => W.cell? ⟨v2.heap.size, 1, none⟩ = some (.bool shake) ∧ W.cell? ⟨v2.heap.size, 2, none⟩ = some (.int .i64 nn) ∧ W.cell? ⟨v2.heap.size, 3, none⟩ = some (.int .i64 ww) ∧ Aside0 (Below w.heap.size w W) ∧ v2.heap.size < W.heap.size)
    (first
      | (refine ⟨by simpa using hv1, by simpa using hv2, by simpa using hv3, ⟨(HB.out.alloc HB.out.size _).drew⟩, by simpa using hvz⟩)
      | (go_split_ands
         have hsz3 := hb3.size
         refine ⟨?_, ?_, ?_, ⟨?_⟩, ?_⟩
         · (rw [(bcell hb3).1 _ _ (by assumption)]; assumption)
         · (rw [(bcell hb3).1 _ _ (by assumption)]; assumption)
         · (rw [(bcell hb3).1 _ _ (by assumption)]; assumption)
         · exact below_step (Aside0.out (by assumption)) hb3
         · omega))
    (first
      | (go_simp; go_at_call 119; refine (cs.out _).mono ?_; rintro e v3 ⟨rfl, rfl⟩)
      | (go_simp; go_at_call 120; refine (cn.out _).mono ?_; rintro e v3 ⟨rfl, hb3⟩)
      | (go_simp; go_at_call 120; refine (cw.out _).mono ?_; rintro e v3 ⟨rfl, hb3⟩))
  go_wp2
  go_ret
  go_split_ands
  exact ⟨rfl, Aside0.out (by assumption)⟩
set_option maxHeartbeats 2000000 in
set_option maxRecDepth 100000 in
theorem rname2 (c : Int) (w : World) (g0 : 0 ≤ c) (g1 : c < 4294967296) (o : LmsR) (ho : lms c = (o, 0)) (n0 : 0 ≤ o.n) (n1 : o.n < 100000) (w0 : 0 ≤ o.h) (w1 : o.h < 100000) :
    Calls Tryz.prog 76 #[.int .i64 2, .int .u32 c] w fun e w' => e = .returned (.string (name2S o)) ∧ Below w.heap.size w w' := by
  unfold name2S
  have Ck := fun w => r_Is 2 c w g0 g1
  rw [show known 2 c = true by unfold known; rw [ho]; rfl] at Ck
  have Cots := fun w => r_Ots c w g0 g1
  have Clms := fun w => r_Lms c w g0 g1
  have Cxmss := fun w => r_Xmss c w g0 g1
  rw [ho] at Clms
  generalize ots c = qOts at *
  obtain ⟨⟨a0, a1, a2, a3, a4, a5⟩, ea⟩ := qOts
  generalize xms c = qXmss at *
  obtain ⟨⟨d0, d1, d2, d3, d4⟩, ed⟩ := qXmss
  have Cn := fun w => r_digS o.n w n0 (by omega)
  have Cw := fun w => r_digS (o.h) w (by omega) (by omega)
  have Cs := fun w => r_sumS o.shake w
  have z1 := decS_size o.n n0 (by omega)
  have z2 := decS_size (o.h) (by omega) (by omega)
  have z3 := sumS_size o.shake
  obtain ⟨code, shake, nn, hh⟩ := o
  simp only [OtsR.enc, LmsR.enc, XmsR.enc] at *
  have ck := Lib.hid Ck; have cots := Lib.hid Cots; have clms := Lib.hid Clms; have cxmss := Lib.hid Cxmss; have cn := Lib.hid Cn; have cw := Lib.hid Cw; have cs := Lib.hid Cs; clear Ck Cots Clms Cxmss Cn Cw Cs ho
  go_enter Tryz.func76, Tryz.ntmps76
  go_wp2_with (first
      | (go_at_call 116; refine (ck.out _).mono ?_; rintro e v1 ⟨rfl, hb1⟩)
      | (go_at_call 117; refine (cots.out _).mono ?_; rintro e v2 ⟨rfl, hb2⟩; have HB2 := Aside0.mk (below_step hb1 hb2); clear hb1 hb2)
      | (go_at_call 118; refine (clms.out _).mono ?_; rintro e v3 ⟨rfl, hb3⟩; have HB3 : Aside0 (Below w.heap.size w v3) := ⟨(HB2.out.alloc HB2.out.size _).trans (hb3.mono (by have := HB2.out.size; simp; omega))⟩; clear hb3)
      | (go_at_call 114; refine (cxmss.out _).mono ?_; rintro e v4 ⟨rfl, hb4⟩; have HR := Aside0.mk (krow (World.alloc_heap_new v3 (Obj.cells #[.int .u32 code, .bool shake, .int .i64 nn, .int .i64 hh] 144)) hb4); have HB : Aside0 (Below w.heap.size w v4) := ⟨(HB3.out.alloc HB3.out.size _).trans (hb4.mono (by have := HB3.out.size; simp; omega))⟩; clear hb4)
      | fail)
  have HR := Aside0.mk (knew (o' := (Obj.cells #[.int .u32 d0, .bool d1, .int .i64 d2, .int .i64 d3, .int .i64 d4] 128)) HR.out)
  have hv1 := blk_cell HR.out 1
  have hv2 := blk_cell HR.out 2
  have hv3 := blk_cell HR.out 3
  have hvz := World.block_lt_of_cell? _ _ hv1
  simp only at hvz
  have f1 : 4 + (sumS shake).size ≤ 9223372036854775807 := by omega
  have k1 := fun W => run_string_add_sum (P := Tryz.prog) W ((⟨#[76, 77, 83, 95]⟩ : ByteArray)) (sumS shake) f1
  have f2 : ((⟨#[76, 77, 83, 95]⟩ : ByteArray) ++ sumS shake).size + 2 ≤ 9223372036854775807 := by rw [ByteArray.size_append]; show 4 + _ + 2 ≤ _; omega
  have k2 := fun W => run_string_add_sum (P := Tryz.prog) W (((⟨#[76, 77, 83, 95]⟩ : ByteArray) ++ sumS shake)) ((⟨#[95, 77]⟩ : ByteArray)) f2
  have f3 : (((⟨#[76, 77, 83, 95]⟩ : ByteArray) ++ sumS shake) ++ (⟨#[95, 77]⟩ : ByteArray)).size + (decS nn).size ≤ 9223372036854775807 := by rw [ByteArray.size_append, ByteArray.size_append]; show 4 + _ + 2 + _ ≤ _; omega
  have k3 := fun W => run_string_add_sum (P := Tryz.prog) W ((((⟨#[76, 77, 83, 95]⟩ : ByteArray) ++ sumS shake) ++ (⟨#[95, 77]⟩ : ByteArray))) (decS nn) f3
  have f4 : ((((⟨#[76, 77, 83, 95]⟩ : ByteArray) ++ sumS shake) ++ (⟨#[95, 77]⟩ : ByteArray)) ++ decS nn).size + 2 ≤ 9223372036854775807 := by rw [ByteArray.size_append, ByteArray.size_append, ByteArray.size_append]; show 4 + _ + 2 + _ + 2 ≤ _; omega
  have k4 := fun W => run_string_add_sum (P := Tryz.prog) W (((((⟨#[76, 77, 83, 95]⟩ : ByteArray) ++ sumS shake) ++ (⟨#[95, 77]⟩ : ByteArray)) ++ decS nn)) ((⟨#[95, 72]⟩ : ByteArray)) f4
  have f5 : (((((⟨#[76, 77, 83, 95]⟩ : ByteArray) ++ sumS shake) ++ (⟨#[95, 77]⟩ : ByteArray)) ++ decS nn) ++ (⟨#[95, 72]⟩ : ByteArray)).size + (decS hh).size ≤ 9223372036854775807 := by rw [ByteArray.size_append, ByteArray.size_append, ByteArray.size_append, ByteArray.size_append]; show 4 + _ + 2 + _ + 2 + _ ≤ _; omega
  have k5 := fun W => run_string_add_sum (P := Tryz.prog) W ((((((⟨#[76, 77, 83, 95]⟩ : ByteArray) ++ sumS shake) ++ (⟨#[95, 77]⟩ : ByteArray)) ++ decS nn) ++ (⟨#[95, 72]⟩ : ByteArray))) (decS hh) f5
  clear f1 f2 f3 f4 f5
  go_region_held3 (fun W => W.cell? ⟨v3.heap.size, 1, none⟩ = some (.bool shake) ∧ W.cell? ⟨v3.heap.size, 2, none⟩ = some (.int .i64 nn) ∧ W.cell? ⟨v3.heap.size, 3, none⟩ = some (.int .i64 hh) ∧ Aside0 (Below w.heap.size w W) ∧ v3.heap.size < W.heap.size)
    (first
      | (refine ⟨by simpa using hv1, by simpa using hv2, by simpa using hv3, ⟨(HB.out.alloc HB.out.size _).drew⟩, by simpa using hvz⟩)
      | (go_split_ands
         have hsz3 := hb3.size
         refine ⟨?_, ?_, ?_, ⟨?_⟩, ?_⟩
         · (rw [(bcell hb3).1 _ _ (by assumption)]; assumption)
         · (rw [(bcell hb3).1 _ _ (by assumption)]; assumption)
         · (rw [(bcell hb3).1 _ _ (by assumption)]; assumption)
         · exact below_step (Aside0.out (by assumption)) hb3
         · omega))
    (first
      | (go_simp; go_at_call 119; refine (cs.out _).mono ?_; rintro e v3 ⟨rfl, rfl⟩)
      | (go_simp; go_at_call 120; refine (cn.out _).mono ?_; rintro e v3 ⟨rfl, hb3⟩)
      | (go_simp; go_at_call 120; refine (cw.out _).mono ?_; rintro e v3 ⟨rfl, hb3⟩))
  go_wp2
  go_ret
  go_split_ands
  exact ⟨rfl, Aside0.out (by assumption)⟩
set_option maxHeartbeats 2000000 in
set_option maxRecDepth 100000 in
theorem rname3 (c : Int) (w : World) (g0 : 0 ≤ c) (g1 : c < 4294967296) (o : XmsR) (ho : xms c = (o, 0)) (n0 : 0 ≤ o.h) (n1 : o.h < 100000) (w0 : 0 ≤ o.n) (w1 : o.n < 100000) :
    Calls Tryz.prog 76 #[.int .i64 3, .int .u32 c] w fun e w' => e = .returned (.string (name3S o)) ∧ Below w.heap.size w w' := by
  unfold name3S
  have Ck := fun w => r_Is 3 c w g0 g1
  rw [show known 3 c = true by unfold known; rw [ho]; rfl] at Ck
  have Cots := fun w => r_Ots c w g0 g1
  have Clms := fun w => r_Lms c w g0 g1
  have Cxmss := fun w => r_Xmss c w g0 g1
  rw [ho] at Cxmss
  generalize ots c = qOts at *
  obtain ⟨⟨a0, a1, a2, a3, a4, a5⟩, ea⟩ := qOts
  generalize lms c = qLms at *
  obtain ⟨⟨b0, b1, b2, b3⟩, eb⟩ := qLms
  have Cn := fun w => r_digS o.h w n0 (by omega)
  have Cw := fun w => r_digS (8 * o.n) w (by omega) (by omega)
  have Cs := fun w => r_sumX o.shake w
  have z1 := decS_size o.h n0 (by omega)
  have z2 := decS_size (8 * o.n) (by omega) (by omega)
  have z3 := sumX_size o.shake
  obtain ⟨code, shake, nn, hh, len⟩ := o
  simp only [OtsR.enc, LmsR.enc, XmsR.enc] at *
  have ck := Lib.hid Ck; have cots := Lib.hid Cots; have clms := Lib.hid Clms; have cxmss := Lib.hid Cxmss; have cn := Lib.hid Cn; have cw := Lib.hid Cw; have cs := Lib.hid Cs; clear Ck Cots Clms Cxmss Cn Cw Cs ho
  have hw8 : IntKind.i64.wrap (8 * nn) = 8 * nn := IntWalk.i64_in _ (by omega)
  go_enter Tryz.func76, Tryz.ntmps76
  go_wp2_with (first
      | (go_at_call 116; refine (ck.out _).mono ?_; rintro e v1 ⟨rfl, hb1⟩)
      | (go_at_call 117; refine (cots.out _).mono ?_; rintro e v2 ⟨rfl, hb2⟩; have HB2 := Aside0.mk (below_step hb1 hb2); clear hb1 hb2)
      | (go_at_call 118; refine (clms.out _).mono ?_; rintro e v3 ⟨rfl, hb3⟩; have HB3 : Aside0 (Below w.heap.size w v3) := ⟨(HB2.out.alloc HB2.out.size _).trans (hb3.mono (by have := HB2.out.size; simp; omega))⟩; clear hb3)
      | (go_at_call 114; refine (cxmss.out _).mono ?_; rintro e v4 ⟨rfl, hb4⟩; have HB : Aside0 (Below w.heap.size w v4) := ⟨(HB3.out.alloc HB3.out.size _).trans (hb4.mono (by have := HB3.out.size; simp; omega))⟩; clear hb4)
      | fail)
  have HR := Aside0.mk (World.alloc_heap_new v4 (Obj.cells #[.int .u32 code, .bool shake, .int .i64 nn, .int .i64 hh, .int .i64 len] 128))
  have hv1 := blk_cell HR.out 1
  have hv2 := blk_cell HR.out 3
  have hv3 := blk_cell HR.out 2
  have hvz := World.block_lt_of_cell? _ _ hv1
  simp only at hvz
  have f1 : 5 + (sumX shake).size ≤ 9223372036854775807 := by omega
  have k1 := fun W => run_string_add_sum (P := Tryz.prog) W ((⟨#[88, 77, 83, 83, 45]⟩ : ByteArray)) (sumX shake) f1
  have f2 : ((⟨#[88, 77, 83, 83, 45]⟩ : ByteArray) ++ sumX shake).size + 1 ≤ 9223372036854775807 := by rw [ByteArray.size_append]; show 5 + _ + 1 ≤ _; omega
  have k2 := fun W => run_string_add_sum (P := Tryz.prog) W (((⟨#[88, 77, 83, 83, 45]⟩ : ByteArray) ++ sumX shake)) ((⟨#[95]⟩ : ByteArray)) f2
  have f3 : (((⟨#[88, 77, 83, 83, 45]⟩ : ByteArray) ++ sumX shake) ++ (⟨#[95]⟩ : ByteArray)).size + (decS hh).size ≤ 9223372036854775807 := by rw [ByteArray.size_append, ByteArray.size_append]; show 5 + _ + 1 + _ ≤ _; omega
  have k3 := fun W => run_string_add_sum (P := Tryz.prog) W ((((⟨#[88, 77, 83, 83, 45]⟩ : ByteArray) ++ sumX shake) ++ (⟨#[95]⟩ : ByteArray))) (decS hh) f3
  have f4 : ((((⟨#[88, 77, 83, 83, 45]⟩ : ByteArray) ++ sumX shake) ++ (⟨#[95]⟩ : ByteArray)) ++ decS hh).size + 1 ≤ 9223372036854775807 := by rw [ByteArray.size_append, ByteArray.size_append, ByteArray.size_append]; show 5 + _ + 1 + _ + 1 ≤ _; omega
  have k4 := fun W => run_string_add_sum (P := Tryz.prog) W (((((⟨#[88, 77, 83, 83, 45]⟩ : ByteArray) ++ sumX shake) ++ (⟨#[95]⟩ : ByteArray)) ++ decS hh)) ((⟨#[95]⟩ : ByteArray)) f4
  have f5 : (((((⟨#[88, 77, 83, 83, 45]⟩ : ByteArray) ++ sumX shake) ++ (⟨#[95]⟩ : ByteArray)) ++ decS hh) ++ (⟨#[95]⟩ : ByteArray)).size + (decS (8 * nn)).size ≤ 9223372036854775807 := by rw [ByteArray.size_append, ByteArray.size_append, ByteArray.size_append, ByteArray.size_append]; show 5 + _ + 1 + _ + 1 + _ ≤ _; omega
  have k5 := fun W => run_string_add_sum (P := Tryz.prog) W ((((((⟨#[88, 77, 83, 83, 45]⟩ : ByteArray) ++ sumX shake) ++ (⟨#[95]⟩ : ByteArray)) ++ decS hh) ++ (⟨#[95]⟩ : ByteArray))) (decS (8 * nn)) f5
  clear f1 f2 f3 f4 f5
  go_region_held3 (fun W => W.cell? ⟨v4.heap.size, 1, none⟩ = some (.bool shake) ∧ W.cell? ⟨v4.heap.size, 3, none⟩ = some (.int .i64 hh) ∧ W.cell? ⟨v4.heap.size, 2, none⟩ = some (.int .i64 nn) ∧ Aside0 (Below w.heap.size w W) ∧ v4.heap.size < W.heap.size)
    (first
      | (refine ⟨by simp, by simp, by simp, ⟨(HB.out.alloc HB.out.size _).drew⟩, by simp⟩)
      | (go_split_ands
         have hsz3 := hb3.size
         refine ⟨?_, ?_, ?_, ⟨?_⟩, ?_⟩
         · (rw [(bcell hb3).1 _ _ (by assumption)]; assumption)
         · (rw [(bcell hb3).1 _ _ (by assumption)]; assumption)
         · (rw [(bcell hb3).1 _ _ (by assumption)]; assumption)
         · exact below_step (Aside0.out (by assumption)) hb3
         · omega))
    (first
      | (go_simp; go_at_call 119; refine (cs.out _).mono ?_; rintro e v3 ⟨rfl, rfl⟩)
      | (go_simp; go_at_call 120; refine (cn.out _).mono ?_; rintro e v3 ⟨rfl, hb3⟩)
      | (go_simp; go_at_call 120; refine (cw.out _).mono ?_; rintro e v3 ⟨rfl, hb3⟩))
  go_wp2
  go_ret
  go_split_ands
  exact ⟨rfl, Aside0.out (by assumption)⟩

set_option maxHeartbeats 1000000 in
set_option maxRecDepth 100000 in
theorem rname0 (k c : Int) (w : World) (g0 : 0 ≤ c) (g1 : c < 4294967296) (hk : known k c = false) :
    Calls Tryz.prog 76 #[.int .i64 k, .int .u32 c] w fun e w' => e = .returned (.string ⟨#[]⟩) ∧ Below w.heap.size w w' := by
  have Ck := fun w => r_Is k c w g0 g1
  rw [hk] at Ck
  have ck := Lib.hid Ck; clear Ck hk
  go_enter Tryz.func76, Tryz.ntmps76
  go_wp2_with (first
      | (go_at_call 116; refine (ck.out _).mono ?_; rintro e v1 ⟨rfl, hb1⟩))
  go_ret
  exact ⟨rfl, hb1⟩
theorem r_Name (k c : Int) (w : World) (g0 : 0 ≤ c) (g1 : c < 4294967296) :
    Calls Tryz.prog 76 #[.int .i64 k, .int .u32 c] w fun e w' => e = .returned (.string (nameS k c)) ∧ Below w.heap.size w w' := by
  unfold nameS
  cases hk : known k c with
  | false => rw [if_neg (by decide)]; exact rname0 k c w g0 g1 hk
  | true =>
    rw [if_pos rfl]
    by_cases h1 : k = 1
    · subst h1
      rw [if_pos rfl]
      have hz : (ots c).2 = 0 := by simpa [known] using hk
      have := ots_bd c
      exact rname1 c w g0 g1 _ (Prod.ext rfl hz) this.1 this.2.1 this.2.2.1 this.2.2.2
    · rw [if_neg h1]
      by_cases h2 : k = 2
      · subst h2
        rw [if_pos rfl]
        have hz : (lms c).2 = 0 := by simpa [known] using hk
        have := lms_bd c
        exact rname2 c w g0 g1 _ (Prod.ext rfl hz) this.1 this.2.1 this.2.2.1 this.2.2.2
      · rw [if_neg h2]
        by_cases h3 : k = 3
        · subst h3
          have hz : (xms c).2 = 0 := by simpa [known] using hk
          have := xms_bd c
          exact rname3 c w g0 g1 _ (Prod.ext rfl hz) this.1 this.2.1 this.2.2.1 this.2.2.2
        · unfold known at hk
          rw [if_neg h1, if_neg h2, if_neg h3] at hk
          cases hk
end Go.Proofs.YtpdinahdcedmkaaGreatDoor.ExtP
