import Derived.Test.YtpdinahdcedmkaaDoorSRows
import Derived.Test.YtpdinahdcedmkaaDoorMHex
/- script.headed: may a plan be, without its acts. -/
namespace Go.Proofs.YtpdinahdcedmkaaDoor.Ext
set_option linter.unusedVariables false
open Go.RowKit Go.Proofs.YtpdinahdcedmkaaDoorW.PrintWords Go.Proofs.YtpdinahdcedmkaaDoorW.PrintLast Go.Proofs.YtpdinahdcedmkaaDoorW.PrintMore

/-- the first place of a string; the length, if there is none -/
def idxS (l : List ByteArray) (s : ByteArray) : Nat := l.findIdx (· = s)
def hasStr (l : List ByteArray) (s : ByteArray) : Bool := decide (idxS l s < l.length)
theorem idxS_hit (l : List ByteArray) (s : ByteArray) (i : Nat) (hi : i < l.length) (h : l.getD i ByteArray.empty = s) (hn : ∀ j < i, l.getD j ByteArray.empty ≠ s) : idxS l s = i := by
  unfold idxS
  rw [List.findIdx_eq hi]
  refine ⟨by rw [List.getD_eq_getElem?_getD, List.getElem?_eq_getElem hi] at h; simpa using h, fun j hj => ?_⟩
  have := hn j hj
  rw [List.getD_eq_getElem?_getD, List.getElem?_eq_getElem (show j < l.length by omega)] at this
  simpa using this
theorem idxS_none (l : List ByteArray) (s : ByteArray) (hn : ∀ j < l.length, l.getD j ByteArray.empty ≠ s) : ¬ idxS l s < l.length := by
  intro h
  unfold idxS at h
  have h1 := List.findIdx_getElem (w := h)
  have h2 := hn _ h
  rw [List.getD_eq_getElem?_getD, List.getElem?_eq_getElem h] at h2
  exact h2 (by simpa using h1)
set_option maxHeartbeats 2000000 in
set_option maxRecDepth 100000 in
theorem c_indexStr (A : Option Addr) (c : Nat) (l : List ByteArray) (s : ByteArray) (w : World) (hA : Kd.C Kd.string w A l.length l) (hc : l.length ≤ c) (hl : l.length ≤ 1048576) :
    Calls Tryd.prog 45 #[.slice A l.length c, .string s] w fun e w' => e = .returned (.int .i64 (if idxS l s < l.length then (idxS l s : Int) else -1)) ∧ w' = w := by
  have HA := Aside0.mk hA
  clear hA
  have HE := Aside0.mk (show ∀ r, (if idxS l s < l.length then (idxS l s : Int) else -1) = r → True from fun _ _ => trivial)
  generalize hR : (if idxS l s < l.length then (idxS l s : Int) else -1) = R
  have HR := Aside0.mk hR
  clear hR HE
  go_enter Tryd.func45, Tryd.ntmps45
  go_wp2
  go_loopw [8] (fun v8 wr => ∃ i : Nat, i ≤ l.length ∧ v8 = .int .i64 (i : Int) ∧ wr = w ∧ Aside0 (∀ j < i, l.getD j ByteArray.empty ≠ s)) (fun v8 _ => l.length - (intOf v8).toNat)
  case atStart => exact ⟨0, by omega, rfl, rfl, ⟨fun j hj => absurd hj (by omega)⟩⟩
  case round =>
    obtain ⟨i, hi, rfl, rfl, hN⟩ := hrel
    by_cases hlt : i < l.length
    · have hti : (i : Int) < (l.length : Int) := by omega
      obtain ⟨ad1, ea1, hx1⟩ := Kd.at_string HA.out (i : Int) (by omega) hti
      subst ea1
      rw [Int.toNat_natCast] at hx1
      have hn1 : rdOf ByteArray.empty l (i : Int) = l.getD i ByteArray.empty := rfl
      rw [hn1] at hx1
      obtain ⟨x, hx⟩ : ∃ x, x = l.getD i ByteArray.empty := ⟨_, rfl⟩
      rw [← hx] at hx1
      have HX := Aside0.mk hx
      clear hx hn1
      by_cases he : s = x
      · have te : (s.toList == x.toList) = true := by rw [← he]; exact beq_self_eq_true _
        have HI := idxS_hit l s i hlt (by rw [← HX.out, he]) hN.out
        obtain rfl : R = (i : Int) := by rw [← HR.out, HI, if_pos hlt]
        clear he HI HR
        go_wp2
        go_ret
        exact ⟨rfl, rfl⟩
      · have te := str_ne he
        have HJ : Aside0 (∀ j < i + 1, l.getD j ByteArray.empty ≠ s) := ⟨fun j hj => by
          rcases Nat.lt_or_ge j i with h | h
          · exact hN.out j h
          · obtain rfl : j = i := by omega
            rw [← HX.out]
            exact fun h => he h.symm⟩
        clear he
        go_wp2
        go_roundw
        case rel => exact ⟨i + 1, by omega, by go_num, trivial, HJ⟩
        case measure => simp [intOf]; omega
    · obtain rfl : i = l.length := by omega
      have HI := Aside0.mk (idxS_none l s hN.out)
      obtain rfl : R = -1 := by rw [← HR.out, if_neg HI.out]
      go_wp2
      go_ret
      exact ⟨rfl, rfl⟩
set_option maxHeartbeats 2000000 in
set_option maxRecDepth 100000 in
theorem c_containsStr (A : Option Addr) (c n : Nat) (l : List ByteArray) (s : ByteArray) (w : World) (hA : Kd.C Kd.string w A l.length l) (hc : l.length ≤ c) (hl : l.length ≤ 1048576) (hn : n = l.length) :
    Calls Tryd.prog 33 #[.slice A n c, .string s] w fun e w' => e = .returned (.bool (hasStr l s)) ∧ w' = w := by
  subst hn
  have ci := Lib.hid (c_indexStr A c l s w hA hc hl)
  clear hA
  unfold hasStr
  by_cases h : idxS l s < l.length
  · rw [if_pos h] at ci
    rw [decide_eq_true h]
    clear h
    generalize idxS l s = k at *
    have t : decide (0 ≤ (k : Int)) = true := decide_eq_true (by omega)
    go_enter Tryd.func33, Tryd.ntmps33
    go_wp2_with (first | (go_at_call 45; refine ci.out.mono ?_; rintro e v ⟨rfl, hv⟩; obtain rfl := hv.symm) | fail)
    go_ret
    exact ⟨rfl, rfl⟩
  · rw [if_neg h] at ci
    rw [decide_eq_false h]
    clear h
    go_enter Tryd.func33, Tryd.ntmps33
    go_wp2_with (first | (go_at_call 45; refine ci.out.mono ?_; rintro e v ⟨rfl, hv⟩; obtain rfl := hv.symm) | fail)
    go_ret
    exact ⟨rfl, rfl⟩

/-- are the names labels, and none twice? -/
def namesOk (l : List ByteArray) (n : Nat) : Bool := (List.range n).all fun i => labelS (l.getD i ByteArray.empty) && !(hasStr (l.take i) (l.getD i ByteArray.empty))
theorem namesOk_succ (l : List ByteArray) (n : Nat) : namesOk l (n + 1) = (namesOk l n && (labelS (l.getD n ByteArray.empty) && !(hasStr (l.take n) (l.getD n ByteArray.empty)))) := by
  unfold namesOk
  rw [List.range_succ, List.all_append]
  simp
theorem namesOk_le (l : List ByteArray) (n m : Nat) (h : namesOk l m = true) (hnm : n ≤ m) : namesOk l n = true := by
  induction m with
  | zero => obtain rfl : n = 0 := by omega
            exact h
  | succ k ih =>
    rcases Nat.lt_or_ge n (k + 1) with h1 | h1
    · rw [namesOk_succ, Bool.and_eq_true] at h
      exact ih h.1 (by omega)
    · obtain rfl : n = k + 1 := by omega
      exact h
def headedS (s r : Int) (l : List ByteArray) : Bool := decide (8 ≤ s ∧ s ≤ 2048 ∧ 1 ≤ r ∧ r ≤ 1024 ∧ 1 ≤ l.length ∧ l.length ≤ 16) && namesOk l l.length
set_option maxHeartbeats 4000000 in
set_option maxRecDepth 100000 in
theorem c_headed (s r : Int) (A : Option Addr) (c : Nat) (l : List ByteArray) (B : Option Addr) (m d : Nat) (w : World) (hA : Kd.C Kd.string w A l.length l) (hc : l.length ≤ c) (hl : l.length ≤ 1048576)
    (hz : ∀ i, (l.getD i ByteArray.empty).size ≤ 140737488351232) :
    Calls Tryd.prog 23 #[.agg #[.int .i64 s, .int .i64 r, .slice A l.length c, .slice B m d]] w fun e w' => e = .returned (.bool (headedS s r l)) ∧ Below w.heap.size w w' := by
  have HA := Aside0.mk hA
  have HZ := Aside0.mk hz
  clear hA hz
  have HQ := Aside0.mk (show headedS s r l = (decide (8 ≤ s ∧ s ≤ 2048 ∧ 1 ≤ r ∧ r ≤ 1024 ∧ 1 ≤ l.length ∧ l.length ≤ 16) && namesOk l l.length) from rfl)
  generalize headedS s r l = R at *
  by_cases h1 : s < 8
  · have t1 : decide (s < 8) = true := decide_eq_true h1
    obtain rfl : R = false := by rw [HQ.out, decide_eq_false (by omega)]; rfl
    clear h1
    go_enter Tryd.func23, Tryd.ntmps23
    go_wp2
    go_ret
    exact ⟨rfl, (Below.refl _ _).alloc (Nat.le_refl _) _⟩
  have t1 : decide (s < 8) = false := decide_eq_false h1
  by_cases h2 : 2048 < s
  · have t2 : decide (2048 < s) = true := decide_eq_true h2
    obtain rfl : R = false := by rw [HQ.out, decide_eq_false (by omega)]; rfl
    clear h1 h2
    go_enter Tryd.func23, Tryd.ntmps23
    go_wp2
    go_ret
    exact ⟨rfl, (Below.refl _ _).alloc (Nat.le_refl _) _⟩
  have t2 : decide (2048 < s) = false := decide_eq_false h2
  by_cases h3 : r < 1
  · have t3 : decide (r < 1) = true := decide_eq_true h3
    obtain rfl : R = false := by rw [HQ.out, decide_eq_false (by omega)]; rfl
    clear h1 h2 h3
    go_enter Tryd.func23, Tryd.ntmps23
    go_wp2
    go_ret
    exact ⟨rfl, (Below.refl _ _).alloc (Nat.le_refl _) _⟩
  have t3 : decide (r < 1) = false := decide_eq_false h3
  by_cases h4 : 1024 < r
  · have t4 : decide (1024 < r) = true := decide_eq_true h4
    obtain rfl : R = false := by rw [HQ.out, decide_eq_false (by omega)]; rfl
    clear h1 h2 h3 h4
    go_enter Tryd.func23, Tryd.ntmps23
    go_wp2
    go_ret
    exact ⟨rfl, (Below.refl _ _).alloc (Nat.le_refl _) _⟩
  have t4 : decide (1024 < r) = false := decide_eq_false h4
  by_cases h5 : (l.length : Int) < 1
  · have t5 : decide ((l.length : Int) < 1) = true := decide_eq_true h5
    obtain rfl : R = false := by rw [HQ.out, decide_eq_false (by omega)]; rfl
    clear h1 h2 h3 h4 h5
    go_enter Tryd.func23, Tryd.ntmps23
    go_wp2
    go_ret
    exact ⟨rfl, (Below.refl _ _).alloc (Nat.le_refl _) _⟩
  have t5 : decide ((l.length : Int) < 1) = false := decide_eq_false h5
  by_cases h6 : 16 < (l.length : Int)
  · have t6 : decide (16 < (l.length : Int)) = true := decide_eq_true h6
    obtain rfl : R = false := by rw [HQ.out, decide_eq_false (by omega)]; rfl
    clear h1 h2 h3 h4 h5 h6
    go_enter Tryd.func23, Tryd.ntmps23
    go_wp2
    go_ret
    exact ⟨rfl, (Below.refl _ _).alloc (Nat.le_refl _) _⟩
  have t6 : decide (16 < (l.length : Int)) = false := decide_eq_false h6
  replace HQ := Aside0.mk (show R = namesOk l l.length by rw [HQ.out, decide_eq_true (by omega)]; rfl)
  clear h1 h2 h3 h4 h5 h6
  have cl := Lib.hid octet_Label.calls
  have cc := Lib.hid c_containsStr
  go_enter Tryd.func23, Tryd.ntmps23
  go_wp2
  go_loopw [38] (fun v38 wr => ∃ i : Nat, i ≤ l.length ∧ v38 = .int .i64 (i : Int) ∧ Aside0 (wr.heap[w.heap.size]? = some (.cells #[.int .i64 s, .int .i64 r, .slice A l.length c, .slice B m d] 33)) ∧ Aside0 (namesOk l i = true) ∧ Aside0 (Below w.heap.size w wr)) (fun v38 _ => l.length - (intOf v38).toNat)
  case atStart =>
    exact ⟨0, by omega, rfl, ⟨heap_alloc_new w _⟩, ⟨rfl⟩, ⟨(Below.refl _ _).alloc (Nat.le_refl _) _⟩⟩
  case round =>
    obtain ⟨i, hi, rfl, HP, HN, HB⟩ := hrel
    by_cases hlt : i < l.length
    · have hti : (i : Int) < (l.length : Int) := by omega
      obtain ⟨ad1, ea1, hx1⟩ := Kd.at_string (Kd.C_below HA.out HB.out) (i : Int) (by omega) hti
      subst ea1
      rw [Int.toNat_natCast] at hx1
      have hn1 : rdOf ByteArray.empty l (i : Int) = l.getD i ByteArray.empty := rfl
      rw [hn1] at hx1
      have HS := Aside0.mk (namesOk_succ l i)
      have HZ1 := Aside0.mk (HZ.out i)
      have HLT := Aside0.mk hlt
      clear hn1
      have HX : ∃ x, x = l.getD i ByteArray.empty := ⟨_, rfl⟩
      obtain ⟨x, hx⟩ := HX
      rw [← hx] at HS HZ1 hx1
      have HXX := Aside0.mk hx
      clear hx
      cases hb : labelS x with
      | false =>
        have HL := Aside0.mk (show octet_Label.f x = some false by unfold octet_Label.f; rw [if_pos HZ1.out, hb])
        obtain rfl : R = false := by
          rw [HQ.out]
          cases hq : namesOk l l.length with
          | false => rfl
          | true => exact absurd (namesOk_le l (i + 1) l.length hq hlt) (by rw [HS.out, hb]; simp)
        clear hb
        go_wp2_with (first
          | (go_at_call 32
             refine (cl.out x false _ HL.out).mono ?_
             rintro e v ⟨rfl, hb⟩)
          | fail)
        go_ret
        exact ⟨rfl, HB.out.trans (hb.mono HB.out.size)⟩
      | true =>
        have HL := Aside0.mk (show octet_Label.f x = some true by unfold octet_Label.f; rw [if_pos HZ1.out, hb])
        have htl : (l.take i).length = i := by rw [List.length_take]; omega
        have HLC : Aside0 (Kd.C Kd.string wr (some ad1) (l.take i).length (l.take i)) := ⟨Kd.C_take (Kd.C_below HA.out HB.out) hi⟩
        have HTL := Aside0.mk htl
        have HLC2 : Aside0 ((l.take i).length ≤ c ∧ (l.take i).length ≤ 1048576) := ⟨by rw [htl]; omega⟩
        clear htl
        have h0i : decide ((0 : Int) ≤ (i : Int)) = true := decide_eq_true (by omega)
        have hic : decide ((i : Int) ≤ (c : Int)) = true := decide_eq_true (by omega)
        have hic2 : i ≤ c := by omega
        cases hb2 : hasStr (l.take i) x with
        | true =>
          obtain rfl : R = false := by
            rw [HQ.out]
            cases hq : namesOk l l.length with
            | false => rfl
            | true => exact absurd (namesOk_le l (i + 1) l.length hq hlt) (by rw [HS.out, hb, hb2]; simp)
          generalize l.take i = T at *
          have HB2 := Aside0.mk hb2
          clear hb hb2
          go_wp2_with (first
            | (go_at_call 32
               refine (cl.out x true _ HL.out).mono ?_
               rintro e v ⟨rfl, hb⟩
               have hcell : v.cell? ⟨w.heap.size, 2, none⟩ = some (.slice (some ad1) l.length c) := (blk_cell (krow HP.out hb) 2).trans rfl
               have HB3 := Aside0.mk (HB.out.trans (hb.mono HB.out.size))
               have HLC3 := Aside0.mk (Kd.C_below HLC.out hb)
               clear hb)
            | (go_at_call 33
               refine (cc.out (some ad1) c i T x _ HLC3.out HLC2.out.1 HLC2.out.2 HTL.out.symm).mono ?_
               rintro e v2 ⟨rfl, hv⟩
               obtain rfl := hv.symm
               rw [HB2.out])
            | fail)
          go_ret
          exact ⟨rfl, HB3.out⟩
        | false =>
          have HN2 : Aside0 (namesOk l (i + 1) = true) := ⟨by rw [HS.out, hb, hb2, HN.out]; rfl⟩
          generalize l.take i = T at *
          have HB2 := Aside0.mk hb2
          clear hb hb2
          go_wp2_with (first
            | (go_at_call 32
               refine (cl.out x true _ HL.out).mono ?_
               rintro e v ⟨rfl, hb⟩
               have HPv := Aside0.mk (krow HP.out hb)
               have hcell : v.cell? ⟨w.heap.size, 2, none⟩ = some (.slice (some ad1) l.length c) := (blk_cell HPv.out 2).trans rfl
               have HB3 := Aside0.mk (HB.out.trans (hb.mono HB.out.size))
               have HLC3 := Aside0.mk (Kd.C_below HLC.out hb)
               clear hb)
            | (go_at_call 33
               refine (cc.out (some ad1) c i T x _ HLC3.out HLC2.out.1 HLC2.out.2 HTL.out.symm).mono ?_
               rintro e v2 ⟨rfl, hv⟩
               obtain rfl := hv.symm
               rw [HB2.out])
            | fail)
          go_roundw
          case rel => exact ⟨i + 1, by omega, by go_num, HPv, HN2, HB3⟩
          case measure => simp [intOf]; omega
    · obtain rfl : i = l.length := by omega
      obtain rfl : R = true := by rw [HQ.out, HN.out]
      go_wp2
      go_ret
      exact ⟨rfl, HB.out⟩
end Go.Proofs.YtpdinahdcedmkaaDoor.Ext
/- script.placed: may an act's devices, key, transfer and range be (of acts without 't' and 'r'). -/
namespace Go.Proofs.YtpdinahdcedmkaaDoor.Ext
set_option linter.unusedVariables false
open Go.RowKit Go.Proofs.YtpdinahdcedmkaaDoorW.PrintWords Go.Proofs.YtpdinahdcedmkaaDoorW.PrintLast Go.Proofs.YtpdinahdcedmkaaDoorW.PrintMore

theorem has_t {d : Int} {c : UInt8} (h : hasS d c = true) (w : World) : Calls Tryd.prog 46 #[.int .i64 d, .string ⟨#[c]⟩] w fun e w' => e = .returned (.bool true) ∧ Below w.heap.size w w' := by rw [← h]; exact c_has d c w
theorem has_f {d : Int} {c : UInt8} (h : hasS d c = false) (w : World) : Calls Tryd.prog 46 #[.int .i64 d, .string ⟨#[c]⟩] w fun e w' => e = .returned (.bool false) ∧ Below w.heap.size w w' := by rw [← h]; exact c_has d c w
/-- is a device's number such that it may be? -/
def inS (is : Bool) (n : Int) (m : Nat) : Bool := decide (0 ≤ n) && (decide (n < m) && (is || decide (n = 0)))
set_option maxHeartbeats 2000000 in
set_option maxRecDepth 100000 in
theorem c_in (is : Bool) (n : Int) (b : Nat) (A : Option Addr) (m c : Nat) (w : World) (h2 : w.cell? ⟨b, 2, none⟩ = some (.slice A m c)) :
    Calls Tryd.prog 49 #[.bool is, .int .i64 n, .pointer (some ⟨b, 0, none⟩)] w fun e w' => e = .returned (.bool (inS is n m)) ∧ w' = w := by
  obtain ⟨R, hR⟩ : ∃ R, inS is n m = R := ⟨_, rfl⟩
  rw [hR]
  unfold inS at hR
  by_cases h0 : 0 ≤ n
  · have t0 : decide (0 ≤ n) = true := decide_eq_true h0
    by_cases h1 : n < m
    · have t1 : decide (n < (m : Int)) = true := decide_eq_true h1
      cases is with
      | true =>
        obtain rfl : R = true := by rw [← hR, t0, t1]; rfl
        clear hR h0 h1
        go_enter Tryd.func49, Tryd.ntmps49
        go_wp2
        go_ret
        exact ⟨rfl, rfl⟩
      | false =>
        by_cases h3 : n = 0
        · obtain rfl : R = true := by rw [← hR, t0, t1, decide_eq_true h3]; rfl
          have t3 : (n == 0) = true := beq_iff_eq.2 h3
          clear hR h0 h1 h3
          go_enter Tryd.func49, Tryd.ntmps49
          go_wp2
          go_ret
          exact ⟨rfl, rfl⟩
        · obtain rfl : R = false := by rw [← hR, t0, t1, decide_eq_false h3]; rfl
          have t3 : (n == 0) = false := beq_eq_false_iff_ne.2 h3
          clear hR h0 h1 h3
          go_enter Tryd.func49, Tryd.ntmps49
          go_wp2
          go_ret
          exact ⟨rfl, rfl⟩
    · have t1 : decide (n < (m : Int)) = false := decide_eq_false h1
      obtain rfl : R = false := by rw [← hR, t0, t1]; rfl
      clear hR h0 h1
      go_enter Tryd.func49, Tryd.ntmps49
      go_wp2
      go_ret
      exact ⟨rfl, rfl⟩
  · have t0 : decide (0 ≤ n) = false := decide_eq_false h0
    obtain rfl : R = false := by rw [← hR, t0]; rfl
    clear hR h0
    go_enter Tryd.func49, Tryd.ntmps49
    go_wp2
    go_ret
    exact ⟨rfl, rfl⟩
theorem c_inB {is : Bool} {n : Int} {m : Nat} {R : Bool} (hR : inS is n m = R) (b : Nat) (A : Option Addr) (c : Nat) (w : World) (h2 : w.cell? ⟨b, 2, none⟩ = some (.slice A m c)) :
    Calls Tryd.prog 49 #[.bool is, .int .i64 n, .pointer (some ⟨b, 0, none⟩)] w fun e w' => e = .returned (.bool R) ∧ Below w.heap.size w w' :=
  (c_in is n b A m c w h2).mono fun e w' h => ⟨by rw [h.1, hR], by rw [h.2]; exact Below.refl _ _⟩
theorem keepP {w W v : World} {b : Nat} {o1 o2 : Obj} {c0 c1 c2 cn : Value} (h0 : W.cell? ⟨b + 1, 0, none⟩ = some c0) (h1 : W.cell? ⟨b + 1, 1, none⟩ = some c1) (h2 : W.cell? ⟨b + 1, 2, none⟩ = some c2) (hn : W.cell? ⟨b, 2, none⟩ = some cn) (HB : Aside0 (Below w.heap.size w W)) (hz : b + 1 < W.heap.size) (HR1 : Aside0 (W.heap[b]? = some o1)) (HR2 : Aside0 (W.heap[b + 1]? = some o2)) (hb : Below W.heap.size W v) :
    v.cell? ⟨b + 1, 0, none⟩ = some c0 ∧ v.cell? ⟨b + 1, 1, none⟩ = some c1 ∧ v.cell? ⟨b + 1, 2, none⟩ = some c2 ∧ v.cell? ⟨b, 2, none⟩ = some cn ∧ Aside0 (Below w.heap.size w v) ∧ b + 1 < v.heap.size ∧ Aside0 (v.heap[b]? = some o1) ∧ Aside0 (v.heap[b + 1]? = some o2) :=
  ⟨(hb.cell (by simpa using hz)).trans h0, (hb.cell (by simpa using hz)).trans h1, (hb.cell (by simpa using hz)).trans h2, (hb.cell (p := ⟨b, 2, none⟩) (show b < W.heap.size by omega)).trans hn, ⟨HB.out.trans (hb.mono HB.out.size)⟩, by have := hb.size; omega, ⟨krow HR1.out hb⟩, ⟨krow HR2.out hb⟩⟩
end Go.Proofs.YtpdinahdcedmkaaDoor.Ext
