/- slices.Equal, Index, Contains, IsSorted of []uint32. -/
import Derived.Test.YtdnidnonjbjgmaaCodes
namespace Go.Proofs.Ytdnidnonjbjgmaa.Ext
set_option linter.unusedVariables false
open Go.RowKit Go.Proofs.YtdnidnonjbjgmaaW.PrintWords Go.Proofs.YtdnidnonjbjgmaaW.PrintLast Go.Proofs.YtdnidnonjbjgmaaW.PrintMore

theorem below_drewN' {b : Nat} {w w' : World} (h : Below b w w') (n : Nat) : Below b w (w'.drewN n) := pw_below_drewN h n
theorem take_snoc (l : List Int) (i : Nat) (hi : i < l.length) : l.take (i + 1) = l.take i ++ [l.getD i 0] := by
  rw [List.take_add_one, List.getD_eq_getElem?_getD, List.getElem?_eq_getElem hi]
  rfl
set_option maxHeartbeats 2000000 in
set_option maxRecDepth 100000 in
theorem equal_walk (A : Option Addr) (c : Nat) (a : List Int) (B : Option Addr) (d : Nat) (b : List Int) (w : World) (hA : Kd.C (Kd.int .u32) w A a.length a) (hB : Kd.C (Kd.int .u32) w B b.length b) (hl : a.length ≤ 1048576) (hc : a.length ≤ c) (hd : b.length ≤ d) :
    Calls Try.prog 16 #[.slice A a.length c, .slice B b.length d] w fun e w' => e = .returned (.bool (decide (a = b))) ∧ Below w.heap.size w w' := by
  by_cases hlen : a.length = b.length
  · have HA := Aside0.mk hA
    have HBc := Aside0.mk hB
    obtain ⟨U, hU⟩ : ∃ U, decide (a = b) = U := ⟨_, rfl⟩
    have HU := Lib.hid hU
    rw [hU]
    clear hU hA hB
    rw [← hlen] at hd ⊢
    have HLN := Aside0.mk hlen
    clear hlen
    go_enter Try.func16, Try.ntmps16
    go_wp2
    go_loopw [13] (fun v13 wr => ∃ i : Nat, i ≤ a.length ∧ v13 = .int .i64 (i : Int) ∧ Aside0 (a.take i = b.take i) ∧ Aside0 (Below w.heap.size w wr)) (fun v13 _ => a.length - (intOf v13).toNat)
    case atStart => exact ⟨0, by omega, rfl, ⟨rfl⟩, ⟨Below.refl _ _⟩⟩
    case round =>
      obtain ⟨i, hi, rfl, hE, hW⟩ := hrel
      by_cases hlt : i < a.length
      · have hti : (i : Int) < (a.length : Int) := by omega
        have htb : (i : Int) < (b.length : Int) := by have := HLN.out; omega
        obtain ⟨ad1, ea1, hx1⟩ := Kd.at_int (Kd.C_below HA.out hW.out) (i : Int) (by omega) hti
        obtain ⟨ad2, ea2, hx2⟩ := Kd.at_int (Kd.C_below HBc.out hW.out) (i : Int) (by omega) htb
        subst ea1
        subst ea2
        rw [Int.toNat_natCast] at hx1 hx2
        have hn1 : rd a (i : Int) = a.getD i 0 := rfl
        have hn2 : rd b (i : Int) = b.getD i 0 := rfl
        rw [hn1] at hx1
        rw [hn2] at hx2
        have HS := Aside0.mk (show a.take (i + 1) = a.take i ++ [a.getD i 0] ∧ b.take (i + 1) = b.take i ++ [b.getD i 0] from ⟨take_snoc a i hlt, take_snoc b i (by have := HLN.out; omega)⟩)
        have HG := Aside0.mk (show i < a.length ∧ i < b.length from ⟨hlt, by have := HLN.out; omega⟩)
        clear hn1 hn2
        by_cases hxy : a.getD i 0 = b.getD i 0
        · rw [← hxy] at hx2
          have HXY := Aside0.mk hxy
          clear hxy
          generalize a.getD i 0 = x at *
          go_wp2
          go_quiet (fail)
          go_wp2
          go_roundw
          case rel => exact ⟨i + 1, by omega, by go_num, ⟨by rw [HS.out.1, HS.out.2, hE.out, HXY.out]⟩, ⟨below_drewN' hW.out nq⟩⟩
          case measure => simp [intOf]; omega
        · have hU : U = false := by
            rw [← HU.out]
            apply decide_eq_false
            intro e
            exact hxy (by rw [e])
          subst hU
          have t1 : (a.getD i 0 != b.getD i 0) = true := bne_iff_ne.2 hxy
          have t2 : (a.getD i 0 == b.getD i 0) = false := beq_eq_false_iff_ne.2 hxy
          clear HS HG
          generalize a.getD i 0 = x at *
          generalize b.getD i 0 = y at *
          go_wp2
          go_quiet (fail)
          go_wp2
          go_ret
          exact ⟨rfl, below_drewN' hW.out nq⟩
      · obtain rfl : i = a.length := by omega
        have hU : U = true := by
          rw [← HU.out]
          apply decide_eq_true
          have h1 := hE.out
          have h2 := HLN.out
          rw [List.take_of_length_le (Nat.le_refl _), List.take_of_length_le (by omega)] at h1
          exact h1
        subst hU
        go_wp2
        go_ret
        exact ⟨rfl, hW.out⟩
  · rw [decide_eq_false (fun e => hlen (by rw [e]))]
    have t1 : ((a.length : Int) != (b.length : Int)) = true := bne_iff_ne.2 (by omega)
    have t2 : ¬ (a.length : Int) = (b.length : Int) := by omega
    clear hA hB
    generalize a.length = m at *
    generalize b.length = n at *
    go_enter Try.func16, Try.ntmps16
    go_wp2
    go_ret
    exact ⟨rfl, Below.refl _ _⟩
set_option maxHeartbeats 2000000 in
set_option maxRecDepth 100000 in
theorem index_walk (A : Option Addr) (c : Nat) (a : List Int) (x : Int) (w : World) (hA : Kd.C (Kd.int .u32) w A a.length a) (hl : a.length ≤ 1048576) (hc : a.length ≤ c) :
    Calls Try.prog 65 #[.slice A a.length c, .int .u32 x] w fun e w' => (∃ r : Int, e = .returned (.int .i64 r) ∧ ((r = -1 ∧ x ∉ a) ∨ (0 ≤ r ∧ x ∈ a))) ∧ Below w.heap.size w w' := by
  have HA := Aside0.mk hA
  clear hA
  go_enter Try.func65, Try.ntmps65
  go_wp2
  go_loopw [8] (fun v8 wr => ∃ i : Nat, i ≤ a.length ∧ v8 = .int .i64 (i : Int) ∧ Aside0 (x ∉ a.take i) ∧ Aside0 (Below w.heap.size w wr)) (fun v8 _ => a.length - (intOf v8).toNat)
  case atStart => exact ⟨0, by omega, rfl, ⟨by simp⟩, ⟨Below.refl _ _⟩⟩
  case round =>
    obtain ⟨i, hi, rfl, hE, hW⟩ := hrel
    by_cases hlt : i < a.length
    · have hti : (i : Int) < (a.length : Int) := by omega
      obtain ⟨ad1, ea1, hx1⟩ := Kd.at_int (Kd.C_below HA.out hW.out) (i : Int) (by omega) hti
      subst ea1
      rw [Int.toNat_natCast] at hx1
      have hn1 : rd a (i : Int) = a.getD i 0 := rfl
      rw [hn1] at hx1
      have HS := Aside0.mk (take_snoc a i hlt)
      have HM := Aside0.mk (show a.getD i 0 ∈ a by
        rw [List.getD_eq_getElem?_getD, List.getElem?_eq_getElem hlt]; exact List.getElem_mem hlt)
      clear hn1
      by_cases hxy : x = a.getD i 0
      · rw [← hxy] at hx1 HM
        clear hxy HS
        go_wp2
        go_ret
        exact ⟨⟨_, rfl, .inr ⟨by omega, HM.out⟩⟩, hW.out⟩
      · have t2 : (x == a.getD i 0) = false := beq_eq_false_iff_ne.2 hxy
        have HN := Aside0.mk (show x ∉ a.take (i + 1) by
          rw [HS.out, List.mem_append]
          intro h
          rcases h with h | h
          · exact hE.out h
          · simp at h; exact hxy (by simpa using h))
        clear HS HM hxy
        generalize a.getD i 0 = y at *
        go_wp2
        go_roundw
        case rel => exact ⟨i + 1, by omega, by go_num, HN, hW⟩
        case measure => simp [intOf]; omega
    · obtain rfl : i = a.length := by omega
      have hE2 := Aside0.mk (show x ∉ a by have := hE.out; rwa [List.take_of_length_le (Nat.le_refl _)] at this)
      clear hE
      go_wp2
      go_ret
      exact ⟨⟨_, rfl, .inl ⟨rfl, hE2.out⟩⟩, hW.out⟩
set_option maxHeartbeats 2000000 in
theorem contains_walk (A : Option Addr) (c : Nat) (a : List Int) (x : Int) (w : World) (hA : Kd.C (Kd.int .u32) w A a.length a) (hl : a.length ≤ 1048576) (hc : a.length ≤ c) :
    Calls Try.prog 34 #[.slice A a.length c, .int .u32 x] w fun e w' => e = .returned (.bool (decide (x ∈ a))) ∧ Below w.heap.size w w' := by
  have ci := Lib.hid (index_walk A c a x w hA hl hc)
  by_cases hx : x ∈ a
  · rw [decide_eq_true hx]
    have HX := Aside0.mk hx
    clear hA hx
    go_enter Try.func34, Try.ntmps34
    go_wp2_with (first
      | (go_at_call 65
         refine ci.out.mono ?_
         rintro e v ⟨⟨r, rfl, h⟩, hb⟩
         obtain ⟨h0, _⟩ := h.resolve_left (fun h => h.2 HX.out))
      | fail)
    go_ret
    exact ⟨rfl, hb⟩
  · rw [decide_eq_false hx]
    have HX := Aside0.mk hx
    clear hA hx
    go_enter Try.func34, Try.ntmps34
    go_wp2_with (first
      | (go_at_call 65
         refine ci.out.mono ?_
         rintro e v ⟨⟨r, rfl, h⟩, hb⟩
         obtain ⟨rfl, _⟩ := h.resolve_right (fun h => HX.out h.2))
      | fail)
    go_ret
    exact ⟨rfl, hb⟩
set_option maxHeartbeats 1000000 in
theorem less_walk (a b : Int) (w : World) :
    Calls Try.prog 66 #[.int .u32 a, .int .u32 b] w fun e w' => e = .returned (.bool (decide (a < b))) ∧ w' = w := by
  have hn : ∀ (x : Int) (W : World), Calls Try.prog 72 #[.int .u32 x] W fun e w' => e = .returned (.bool false) ∧ w' = W := by
    intro x W
    go_enter Try.func72, Try.ntmps72
    go_wp2
    go_ret
    exact ⟨rfl, rfl⟩
  have cn := Lib.hid hn
  clear hn
  go_enter Try.func66, Try.ntmps66
  go_wp2_with (first | (go_at_call 72; refine (cn.out _ _).mono ?_; rintro e v ⟨rfl, rfl⟩) | fail)
  go_ret
  exact ⟨rfl, rfl⟩
/-- a rising list is sorted -/
def Rises (a : List Int) : Prop := ∀ i, i + 1 < a.length → a.getD i 0 ≤ a.getD (i + 1) 0
set_option maxHeartbeats 2000000 in
set_option maxRecDepth 100000 in
theorem sorted_walk (A : Option Addr) (c : Nat) (a : List Int) (w : World) (hA : Kd.C (Kd.int .u32) w A a.length a) (hl : a.length ≤ 1048576) (hc : a.length ≤ c) (hs : Rises a) :
    Calls Try.prog 35 #[.slice A a.length c] w fun e w' => e = .returned (.bool true) ∧ Below w.heap.size w w' := by
  have HA := Aside0.mk hA
  have HS := Aside0.mk hs
  have cl := Lib.hid less_walk
  clear hA hs
  by_cases h0 : a.length = 0
  · generalize a.length = m at *
    subst h0
    go_enter Try.func35, Try.ntmps35
    go_wp2
    go_loopw [3] (fun v3 wr => v3 = .int .i64 (-1) ∧ Aside0 (Below w.heap.size w wr)) (fun _ _ => 0)
    case atStart => exact ⟨by go_num, ⟨Below.refl _ _⟩⟩
    case round =>
      obtain ⟨rfl, hW⟩ := hrel
      go_wp2
      go_ret
      exact ⟨rfl, hW.out⟩
  · have hpos : (1 : Int) ≤ (a.length : Int) := by omega
    clear h0
    go_enter Try.func35, Try.ntmps35
    go_wp2
    go_loopw [3] (fun v3 wr => ∃ j : Int, 0 ≤ j ∧ j < (a.length : Int) ∧ v3 = .int .i64 j ∧ Aside0 (Below w.heap.size w wr)) (fun v3 _ => (intOf v3).toNat)
    case atStart => exact ⟨(a.length : Int) - 1, by omega, by omega, by go_num, ⟨Below.refl _ _⟩⟩
    case round =>
      obtain ⟨j, hj0, hj1, rfl, hW⟩ := hrel
      by_cases hj : j = 0
      · subst hj
        go_wp2
        go_ret
        exact ⟨rfl, hW.out⟩
      · have hjp : 0 < j := by omega
        obtain ⟨ad1, ea1, hx1⟩ := Kd.at_int (Kd.C_below HA.out hW.out) j hj0 hj1
        obtain ⟨ad2, ea2, hx2⟩ := Kd.at_int (Kd.C_below HA.out hW.out) (j - 1) (by omega) (by omega)
        subst ea1
        obtain rfl := Option.some.inj ea2
        have hle : rd a (j - 1) ≤ rd a j := by
          have := HS.out (j - 1).toNat (by omega)
          rw [show (j - 1).toNat + 1 = j.toNat by omega] at this
          exact this
        generalize rd a j = x at *
        generalize rd a (j - 1) = y at *
        have t1 : ¬ x < y := by omega
        have KL := fun W => less_walk x y W
        rw [decide_eq_false t1] at KL
        have kl := Lib.hid KL
        have hw1 : IntKind.i64.wrap (j - 1) = j - 1 := by rw [IntKind.wrap_i64]; omega
        have hq0 : 0 ≤ j - 1 := by omega
        have hq1 : j - 1 < (a.length : Int) := by omega
        rw [show (j - 1).toNat = j.toNat - 1 by omega] at hx2
        have hq2 : 1 ≤ j := by omega
        have hq3 : j < (a.length : Int) + 1 := by omega
        have hq4 : j ≤ (a.length : Int) := by omega
        clear KL t1 hle hj
        go_wp2
        go_quiet ((go_at_call 66; exact Calls.quiet_of_same (kl.out _)))
        go_wp2
        go_roundw
        case rel => exact ⟨j - 1, by omega, by omega, by go_num, ⟨below_drewN' hW.out nq⟩⟩
        case measure => simp [intOf]; omega
end Go.Proofs.Ytdnidnonjbjgmaa.Ext
