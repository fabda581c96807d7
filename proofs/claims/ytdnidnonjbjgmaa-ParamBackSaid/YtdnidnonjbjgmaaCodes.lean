/- liverylaw06.codes and liveryref06.Codes: the codes of a kind; slices.Equal. -/
import Derived.Test.YtdnidnonjbjgmaaTold
import Derived.Test.YtdnidnonjbjgmaaRVals
namespace Go.Proofs.Ytdnidnonjbjgmaa.Ext
set_option linter.unusedVariables false
open Go.RowKit Go.Proofs.YtdnidnonjbjgmaaW.PrintWords Go.Proofs.YtdnidnonjbjgmaaW.PrintLast Go.Proofs.YtdnidnonjbjgmaaW.PrintMore Go.Proofs.Ytdnidnonjbjgmaa.Spec

def firstOf (kind : Int) : Int := if kind = 3 then 4043309056 else 4026531840
def codesOf (kind : Int) : List Int := if kind = 1 ∨ kind = 2 ∨ kind = 3 then codesL kind (firstOf kind) else []
theorem R_from {W : World} {b b' : Nat} {v : Value} {l : List Int} (h : Kd.R (Kd.int .u32) 22 W b (fun _ => True) v l) (hb : b' ≤ b) : Kd.R (Kd.int .u32) 22 W b' (fun _ => True) v l := by
  refine row_u32 ?_
  have ho := Kd.own_of_R h
  refine ⟨ho.1, ?_⟩
  rcases ho.2 with h1 | ⟨g, cap, cur, h1, h2, h3⟩
  · exact .inl h1
  · exact .inr ⟨g, cap, cur, h1, by omega, h3⟩
set_option maxHeartbeats 1000000 in
theorem c_LmsCodes (w : World) :
    Calls Try.prog 47 #[] w fun e w' => e = .returned (.func (.func 73) #[] #[.pointer (some ⟨w.heap.size, 0, none⟩), .pointer (some ⟨w.heap.size + 1, 0, none⟩)]) ∧ w' = (w.alloc (.cells #[.int .i64 2] 3)).alloc (.cells #[.int .u32 4026531840] 22) := by
  go_enter Try.func47, Try.ntmps47
  go_wp2_with (first | (go_at_call 67; refine (c_codes _ _ _).mono ?_; rintro e v ⟨rfl, rfl⟩) | fail)
  go_ret
  exact ⟨rfl, rfl⟩
set_option maxHeartbeats 1000000 in
theorem c_XmssCodes (w : World) :
    Calls Try.prog 48 #[] w fun e w' => e = .returned (.func (.func 73) #[] #[.pointer (some ⟨w.heap.size, 0, none⟩), .pointer (some ⟨w.heap.size + 1, 0, none⟩)]) ∧ w' = (w.alloc (.cells #[.int .i64 3] 3)).alloc (.cells #[.int .u32 4043309056] 22) := by
  go_enter Try.func48, Try.ntmps48
  go_wp2_with (first | (go_at_call 67; refine (c_codes _ _ _).mono ?_; rintro e v ⟨rfl, rfl⟩) | fail)
  go_ret
  exact ⟨rfl, rfl⟩
set_option maxHeartbeats 2000000 in
set_option maxRecDepth 100000 in
theorem c_codesOf (kind : Int) (most : Nat) (hm : most ≤ 1048576) (w : World) :
    Calls Try.prog 17 #[.int .i64 kind, .int .i64 most] w fun e w' => ∃ v, e = .returned v ∧ Kd.R (Kd.int .u32) 22 w' w.heap.size (fun _ => True) v ((codesOf kind).take most) ∧ Below w.heap.size w w' := by
  have key : ∀ (k f : Int) (W : World), 0 ≤ f → f + 64 < 4294967296 → Calls Try.prog 45 #[.func (.func 73) #[] #[.pointer (some ⟨W.heap.size, 0, none⟩), .pointer (some ⟨W.heap.size + 1, 0, none⟩)], .int .i64 most] ((W.alloc (.cells #[.int .i64 k] 3)).alloc (.cells #[.int .u32 f] 22)) fun e w' => ∃ v, e = .returned v ∧ Kd.R (Kd.int .u32) 22 w' W.heap.size (fun _ => True) v ((codesL k f).take most) ∧ Below W.heap.size W w' := by
    intro k f W h0 h1
    refine (told_walk most hm W.heap.size (W.heap.size + 1) k f h0 h1 _ (by simp; omega) (by simp) ?_ ?_).mono ?_
    · have := blk_cell (heap_alloc_new W (.cells #[.int .i64 k] 3)) 0
      exact pw_cell_below (((Below.refl _ _).alloc (Nat.le_refl _) _)) this
    · have := blk_cell (heap_alloc_new (W.alloc (.cells #[.int .i64 k] 3)) (.cells #[.int .u32 f] 22)) 0
      rw [World.size_alloc] at this
      exact this
    · rintro e w' ⟨v, he, hr, hb⟩
      exact ⟨v, he, R_from hr (by simp; omega), (((Below.refl _ _).alloc (Nat.le_refl _) _).alloc (by simp) _).trans (hb.mono (by simp; omega))⟩
  by_cases hk1 : kind = 1
  · subst hk1
    have e : codesOf 1 = codesL 1 4026531840 := rfl
    rw [e]
    have ck := Lib.hid (key 1 4026531840)
    clear key e
    go_enter Try.func17, Try.ntmps17
    go_wp2_with (first
      | (go_at_call 46; refine (c_OtsCodes _).mono ?_; rintro e v ⟨rfl, rfl⟩)
      | (go_at_call 45; refine (ck.out _ (by decide) (by decide)).mono ?_; rintro e v ⟨u, rfl, hr, hb⟩)
      | fail)
    go_ret
    exact ⟨_, rfl, hr, hb⟩
  by_cases hk2 : kind = 2
  · subst hk2
    have e : codesOf 2 = codesL 2 4026531840 := rfl
    rw [e]
    have ck := Lib.hid (key 2 4026531840)
    clear key e
    go_enter Try.func17, Try.ntmps17
    go_wp2_with (first
      | (go_at_call 47; refine (c_LmsCodes _).mono ?_; rintro e v ⟨rfl, rfl⟩)
      | (go_at_call 45; refine (ck.out _ (by decide) (by decide)).mono ?_; rintro e v ⟨u, rfl, hr, hb⟩)
      | fail)
    go_ret
    exact ⟨_, rfl, hr, hb⟩
  by_cases hk3 : kind = 3
  · subst hk3
    have e : codesOf 3 = codesL 3 4043309056 := rfl
    rw [e]
    have ck := Lib.hid (key 3 4043309056)
    clear key e
    go_enter Try.func17, Try.ntmps17
    go_wp2_with (first
      | (go_at_call 48; refine (c_XmssCodes _).mono ?_; rintro e v ⟨rfl, rfl⟩)
      | (go_at_call 45; refine (ck.out _ (by decide) (by decide)).mono ?_; rintro e v ⟨u, rfl, hr, hb⟩)
      | fail)
    go_ret
    exact ⟨_, rfl, hr, hb⟩
  have e : codesOf kind = [] := by unfold codesOf; rw [if_neg (by omega)]
  rw [e, List.take_nil]
  have t1 : (kind == 1) = false := beq_eq_false_iff_ne.2 hk1
  have t2 : (kind == 2) = false := beq_eq_false_iff_ne.2 hk2
  have t3 : (kind == 3) = false := beq_eq_false_iff_ne.2 hk3
  clear key
  go_enter Try.func17, Try.ntmps17
  go_wp2
  go_ret
  exact ⟨_, rfl, Kd.R_nil _ _ _ _ _, Below.refl _ _⟩

/-! ### the document's side -/
set_option maxHeartbeats 1000000 in
set_option maxRecDepth 100000 in
theorem r_Is (k c : Int) (w : World) (g0 : 0 ≤ c) (g1 : c < 4294967296) :
    Calls Try.prog 44 #[.int .i64 k, .int .u32 c] w fun e w' => e = .returned (.bool (known k c)) ∧ Below w.heap.size w w' := by
  by_cases h1 : k = 1
  · subst h1
    rw [show known 1 c = ((ots c).2 == 0) from rfl]
    have Co := fun w => r_Ots c w g0 g1
    have co := Lib.hid Co; clear Co
    go_enter Try.func44, Try.ntmps44
    go_wp2_with (first
      | (go_at_call 12; refine (co.out _).mono ?_; rintro e w1 ⟨rfl, hb⟩))
    go_ret
    exact ⟨rfl, hb⟩
  by_cases h2 : k = 2
  · subst h2
    rw [show known 2 c = ((lms c).2 == 0) from rfl]
    have Co := fun w => r_Lms c w g0 g1
    have co := Lib.hid Co; clear Co
    go_enter Try.func44, Try.ntmps44
    go_wp2_with (first
      | (go_at_call 13; refine (co.out _).mono ?_; rintro e w1 ⟨rfl, hb⟩))
    go_ret
    exact ⟨rfl, hb⟩
  by_cases h3 : k = 3
  · subst h3
    rw [show known 3 c = ((xms c).2 == 0) from rfl]
    have Co := fun w => r_Xmss c w g0 g1
    have co := Lib.hid Co; clear Co
    go_enter Try.func44, Try.ntmps44
    go_wp2_with (first
      | (go_at_call 14; refine (co.out _).mono ?_; rintro e w1 ⟨rfl, hb⟩))
    go_ret
    exact ⟨rfl, hb⟩
  have hk : known k c = false := by unfold known; rw [if_neg h1, if_neg h2, if_neg h3]
  rw [hk]
  clear hk
  have t1 : (k == 1) = false := beq_eq_false_iff_ne.2 h1
  have t2 : (k == 2) = false := beq_eq_false_iff_ne.2 h2
  have t3 : (k == 3) = false := beq_eq_false_iff_ne.2 h3
  go_enter Try.func44, Try.ntmps44
  go_wp2
  go_ret
  exact ⟨rfl, Below.refl _ _⟩
def bothL (k : Int) (i : Nat) : List Int := (List.range i).flatMap fun (j : Nat) => (if known k (4026531840 + (j : Int)) = true then [4026531840 + (j : Int)] else []) ++ (if known k (4043309056 + (j : Int)) = true then [4043309056 + (j : Int)] else [])
theorem bothL_succ (k : Int) (i : Nat) : bothL k (i + 1) = bothL k i ++ ((if known k (4026531840 + (i : Int)) = true then [4026531840 + (i : Int)] else []) ++ (if known k (4043309056 + (i : Int)) = true then [4043309056 + (i : Int)] else [])) := by
  unfold bothL
  rw [List.range_succ, List.flatMap_append]
  simp
theorem bothL_len (k : Int) : ∀ i : Nat, (bothL k i).length ≤ 2 * i
  | 0 => by simp [bothL]
  | i + 1 => by
    have := bothL_len k i
    rw [bothL_succ, List.length_append, List.length_append]
    have h1 : (if known k (4026531840 + (i : Int)) = true then [4026531840 + (i : Int)] else []).length ≤ 1 := by split <;> simp
    have h2 : (if known k (4043309056 + (i : Int)) = true then [4043309056 + (i : Int)] else []).length ≤ 1 := by split <;> simp
    omega
def refCodes (k : Int) : List Int := lowL k 25 ++ bothL k 64
theorem low1 (k : Int) : lowL k 1 = [] := by
  have : known k 0 = false := by
    unfold known
    split
    · decide +kernel
    · split
      · decide +kernel
      · split
        · decide +kernel
        · rfl
  rw [lowL_succ]
  simp [lowL, this]
set_option maxRecDepth 100000 in
theorem refCodes_eq (k : Int) (h : k = 1 ∨ k = 2 ∨ k = 3) : refCodes k = codesOf k := by
  rcases h with rfl | rfl | rfl <;> decide +kernel

theorem pre_len1 (a : List Int) (x : Int) : (a ++ [x]).length = a.length + 1 := by simp
set_option maxHeartbeats 4000000 in
set_option maxRecDepth 100000 in
theorem r_Codes (k : Int) (w : World) :
    Calls Try.prog 15 #[.int .i64 k] w fun e w' => ∃ v, e = .returned v ∧ Kd.R (Kd.int .u32) 22 w' w.heap.size (fun _ => True) v (refCodes k) ∧ Below w.heap.size w w' := by
  go_enter Try.func15, Try.ntmps15
  go_wp2
  go_loopw [3, 4] (fun v3 v4 wr => ∃ i : Nat, 1 ≤ i ∧ i ≤ 25 ∧ v4 = .int .u32 (i : Int) ∧ Aside0 (Kd.R (Kd.int .u32) 22 wr w.heap.size (fun _ => True) v3 (lowL k i)) ∧ Aside0 (Below w.heap.size w wr)) (fun _ v4 _ => 25 - (intOf v4).toNat)
  case atStart => exact ⟨1, by omega, by omega, rfl, ⟨by rw [low1]; exact row_u32 (World.ownsRow_lit (base := w.heap.size) (e := 22) (size := 1) w #[] 0 (Nat.le_refl _) (by simp [maxLen]) (by simp))⟩, ⟨(Below.refl _ _).alloc (Nat.le_refl _) _⟩⟩
  case round =>
    obtain ⟨i, hi1, hi2, rfl, hO, hB⟩ := hrel
    by_cases hlt : i < 25
    · have hkc := Lib.hid (fun W => r_Is k (i : Int) W (by omega) (by omega))
      have hlen := lowL_len k i
      by_cases hkn : known k (i : Int) = true
      · have KC := hkc.out
        rw [hkn] at KC
        have hkc := Lib.hid KC
        have HE : Aside0 (lowL k (i + 1) = lowL k i ++ [(i : Int)]) := ⟨by rw [lowL_succ, if_pos hkn]⟩
        clear KC hkn
        generalize lowL k i = L1 at *
        go_wp2_with (first
          | (go_at_call 44
             refine (hkc.out _).mono ?_
             rintro e v ⟨rfl, hb⟩
             have HO1 := Aside0.mk (Kd.R_below hO.out hb)
             have HB1 := Aside0.mk (hB.out.trans (hb.mono hB.out.size))
             clear hb)
          | ((with_reducible refine gate_builtin (b := .append) (xs := #[.tmp 14, .tmp 16]) rfl ?_)
             at_builtin
             refine Kd.R_append (Kd.int .u32) (w0 := w) w.heap.size rfl (.tmp 14) (.tmp 16) 38 22 (.int .u32 0) 4 rfl Try.underlying38 info_u32 rfl (by decide) (by omega) u3 L1 (i : Int) [.int .u32 (i : Int)] (fun _ => True) (fun _ => False) rfl rfl rfl (fun _ hk => hk.elim) (fun _ _ => trivial) HO1.out HB1.out HB1.out.size (by omega) ?_
             intro v2 w2 ho hb hg hat
             have HB2 := Aside0.mk hb
             have HO2 := Aside0.mk ho
             clear ho hb hg hat)
          | fail)
        go_roundw
        case rel => exact ⟨i + 1, by omega, by omega, by go_num, ⟨by rw [HE.out]; exact HO2.out⟩, HB2⟩
        case measure => simp [intOf]; omega
      · have hkf : known k (i : Int) = false := by simpa using hkn
        have KC := hkc.out
        rw [hkf] at KC
        have hkc := Lib.hid KC
        have HE : Aside0 (lowL k (i + 1) = lowL k i) := ⟨by rw [lowL_succ, if_neg hkn, List.append_nil]⟩
        clear KC hkn hkf
        generalize lowL k i = L1 at *
        go_wp2_with (first
          | (go_at_call 44
             refine (hkc.out _).mono ?_
             rintro e v ⟨rfl, hb⟩
             have HO1 := Aside0.mk (Kd.R_below hO.out hb)
             have HB1 := Aside0.mk (hB.out.trans (hb.mono hB.out.size))
             clear hb)
          | fail)
        go_roundw
        case rel => exact ⟨i + 1, by omega, by omega, by go_num, ⟨by rw [HE.out]; exact HO1.out⟩, HB1⟩
        case measure => simp [intOf]; omega
    · obtain rfl : i = 25 := by omega
      go_wp2
      go_loopw [3, 18] (fun v3 v18 wr => ∃ i : Nat, i ≤ 64 ∧ v18 = .int .u32 (i : Int) ∧ Aside0 (Kd.R (Kd.int .u32) 22 wr w.heap.size (fun _ => True) v3 (lowL k 25 ++ bothL k i)) ∧ Aside0 (Below w.heap.size w wr)) (fun _ v18 _ => 64 - (intOf v18).toNat)
      case atStart => exact ⟨0, by omega, rfl, ⟨by have := hO.out; simpa [bothL] using this⟩, hB⟩
      case round =>
        clear hO hB
        obtain ⟨i, hi2, rfl, hO, hB⟩ := hrel
        by_cases hlt : i < 64
        · have K1 := fun W => r_Is k (4026531840 + (i : Int)) W (by omega) (by omega)
          have K2 := fun W => r_Is k (4043309056 + (i : Int)) W (by omega) (by omega)
          cases hkn1 : known k (4026531840 + (i : Int)) with
          | true =>
            cases hkn2 : known k (4043309056 + (i : Int)) with
            | true =>
              rw [hkn1] at K1
              rw [hkn2] at K2
              have hk1 := Lib.hid K1
              have hk2 := Lib.hid K2
              have HE : Aside0 (lowL k 25 ++ bothL k (i + 1) = lowL k 25 ++ bothL k i ++ [4026531840 + (i : Int)] ++ [4043309056 + (i : Int)]) := ⟨by rw [bothL_succ, hkn1, hkn2]; simp⟩
              clear K1 K2 hkn1 hkn2
              have hlen : (lowL k 25 ++ bothL k i).length ≤ 200 := by have := lowL_len k 25; have := bothL_len k i; rw [List.length_append]; omega
              generalize lowL k 25 ++ bothL k i = L1 at *
              go_wp2_with (first
                | (go_at_call 44
                   first
                   | (with_reducible refine (hk2.out _).mono ?_
                      rintro e vB ⟨rfl, hb⟩
                      have HO3 := Aside0.mk (Kd.R_below HO2.out hb)
                      have HB3 := Aside0.mk (HB2.out.trans (hb.mono HB2.out.size))
                      clear hb)
                   | (with_reducible refine (hk1.out _).mono ?_
                      rintro e vA ⟨rfl, hb⟩
                      have HO1 := Aside0.mk (Kd.R_below hO.out hb)
                      have HB1 := Aside0.mk (hB.out.trans (hb.mono hB.out.size))
                      clear hb))
                | ((with_reducible refine gate_builtin (b := .append) (xs := #[.tmp 25, .tmp 28]) rfl ?_)
                   at_builtin
                   refine Kd.R_append (Kd.int .u32) (w0 := w) w.heap.size rfl (.tmp 25) (.tmp 28) 38 22 (.int .u32 0) 4 rfl Try.underlying38 info_u32 rfl (by decide) (by omega) u3 (L1) (4026531840 + (i : Int)) [.int .u32 (4026531840 + (i : Int))] (fun _ => True) (fun _ => False) rfl rfl rfl (fun _ hk => hk.elim) (fun _ _ => trivial) HO1.out HB1.out HB1.out.size (by omega) ?_
                   intro v2 w2 ho hb hg hat
                   have HB2 := Aside0.mk hb
                   have HO2 := Aside0.mk ho
                   clear ho hb hg hat)
                | ((with_reducible refine gate_builtin (b := .append) (xs := #[.tmp 34, .tmp 37]) rfl ?_)
                   at_builtin
                   refine Kd.R_append (Kd.int .u32) (w0 := w) w.heap.size rfl (.tmp 34) (.tmp 37) 38 22 (.int .u32 0) 4 rfl Try.underlying38 info_u32 rfl (by decide) (by omega) v2 (L1 ++ [4026531840 + (i : Int)]) (4043309056 + (i : Int)) [.int .u32 (4043309056 + (i : Int))] (fun _ => True) (fun _ => False) rfl rfl rfl (fun _ hk => hk.elim) (fun _ _ => trivial) HO3.out HB3.out HB3.out.size (by simp; omega) ?_
                   intro v4 w4 ho hb hg hat
                   have HB4 := Aside0.mk hb
                   have HO4 := Aside0.mk ho
                   clear ho hb hg hat)
                | fail)
              go_roundw
              case rel =>
                repeat apply Exists.intro
                refine ⟨?_, rfl⟩
                exact ⟨i + 1, by omega, by go_num, ⟨by rw [HE.out]; first | exact HO4.out | (have := HO4.out; simpa using this)⟩, HB4⟩
              case measure => simp [intOf]; omega
            | false =>
              rw [hkn1] at K1
              rw [hkn2] at K2
              have hk1 := Lib.hid K1
              have hk2 := Lib.hid K2
              have HE : Aside0 (lowL k 25 ++ bothL k (i + 1) = lowL k 25 ++ bothL k i ++ [4026531840 + (i : Int)]) := ⟨by rw [bothL_succ, hkn1, hkn2]; simp⟩
              clear K1 K2 hkn1 hkn2
              have hlen : (lowL k 25 ++ bothL k i).length ≤ 200 := by have := lowL_len k 25; have := bothL_len k i; rw [List.length_append]; omega
              generalize lowL k 25 ++ bothL k i = L1 at *
              go_wp2_with (first
                | (go_at_call 44
                   first
                   | (with_reducible refine (hk2.out _).mono ?_
                      rintro e vB ⟨rfl, hb⟩
                      have HO3 := Aside0.mk (Kd.R_below HO2.out hb)
                      have HB3 := Aside0.mk (HB2.out.trans (hb.mono HB2.out.size))
                      clear hb)
                   | (with_reducible refine (hk1.out _).mono ?_
                      rintro e vA ⟨rfl, hb⟩
                      have HO1 := Aside0.mk (Kd.R_below hO.out hb)
                      have HB1 := Aside0.mk (hB.out.trans (hb.mono hB.out.size))
                      clear hb))
                | ((with_reducible refine gate_builtin (b := .append) (xs := #[.tmp 25, .tmp 28]) rfl ?_)
                   at_builtin
                   refine Kd.R_append (Kd.int .u32) (w0 := w) w.heap.size rfl (.tmp 25) (.tmp 28) 38 22 (.int .u32 0) 4 rfl Try.underlying38 info_u32 rfl (by decide) (by omega) u3 (L1) (4026531840 + (i : Int)) [.int .u32 (4026531840 + (i : Int))] (fun _ => True) (fun _ => False) rfl rfl rfl (fun _ hk => hk.elim) (fun _ _ => trivial) HO1.out HB1.out HB1.out.size (by omega) ?_
                   intro v2 w2 ho hb hg hat
                   have HB2 := Aside0.mk hb
                   have HO2 := Aside0.mk ho
                   clear ho hb hg hat)
                | fail)
              go_roundw
              case rel =>
                repeat apply Exists.intro
                refine ⟨?_, rfl⟩
                exact ⟨i + 1, by omega, by go_num, ⟨by rw [HE.out]; first | exact HO3.out | (have := HO3.out; simpa using this)⟩, HB3⟩
              case measure => simp [intOf]; omega
          | false =>
            cases hkn2 : known k (4043309056 + (i : Int)) with
            | true =>
              rw [hkn1] at K1
              rw [hkn2] at K2
              have hk1 := Lib.hid K1
              have hk2 := Lib.hid K2
              have HE : Aside0 (lowL k 25 ++ bothL k (i + 1) = lowL k 25 ++ bothL k i ++ [4043309056 + (i : Int)]) := ⟨by rw [bothL_succ, hkn1, hkn2]; simp⟩
              clear K1 K2 hkn1 hkn2
              have hlen : (lowL k 25 ++ bothL k i).length ≤ 200 := by have := lowL_len k 25; have := bothL_len k i; rw [List.length_append]; omega
              generalize lowL k 25 ++ bothL k i = L1 at *
              go_wp2_with (first
                | (go_at_call 44
                   first
                   | (with_reducible refine (hk2.out _).mono ?_
                      rintro e vB ⟨rfl, hb⟩
                      have HO3 := Aside0.mk (Kd.R_below HO1.out hb)
                      have HB3 := Aside0.mk (HB1.out.trans (hb.mono HB1.out.size))
                      clear hb)
                   | (with_reducible refine (hk1.out _).mono ?_
                      rintro e vA ⟨rfl, hb⟩
                      have HO1 := Aside0.mk (Kd.R_below hO.out hb)
                      have HB1 := Aside0.mk (hB.out.trans (hb.mono hB.out.size))
                      clear hb))
                | ((with_reducible refine gate_builtin (b := .append) (xs := #[.tmp 34, .tmp 37]) rfl ?_)
                   at_builtin
                   refine Kd.R_append (Kd.int .u32) (w0 := w) w.heap.size rfl (.tmp 34) (.tmp 37) 38 22 (.int .u32 0) 4 rfl Try.underlying38 info_u32 rfl (by decide) (by omega) u3 (L1) (4043309056 + (i : Int)) [.int .u32 (4043309056 + (i : Int))] (fun _ => True) (fun _ => False) rfl rfl rfl (fun _ hk => hk.elim) (fun _ _ => trivial) HO3.out HB3.out HB3.out.size (by omega) ?_
                   intro v4 w4 ho hb hg hat
                   have HB4 := Aside0.mk hb
                   have HO4 := Aside0.mk ho
                   clear ho hb hg hat)
                | fail)
              go_roundw
              case rel =>
                repeat apply Exists.intro
                refine ⟨?_, rfl⟩
                exact ⟨i + 1, by omega, by go_num, ⟨by rw [HE.out]; first | exact HO4.out | (have := HO4.out; simpa using this)⟩, HB4⟩
              case measure => simp [intOf]; omega
            | false =>
              rw [hkn1] at K1
              rw [hkn2] at K2
              have hk1 := Lib.hid K1
              have hk2 := Lib.hid K2
              have HE : Aside0 (lowL k 25 ++ bothL k (i + 1) = lowL k 25 ++ bothL k i) := ⟨by rw [bothL_succ, hkn1, hkn2]; simp⟩
              clear K1 K2 hkn1 hkn2
              have hlen : (lowL k 25 ++ bothL k i).length ≤ 200 := by have := lowL_len k 25; have := bothL_len k i; rw [List.length_append]; omega
              generalize lowL k 25 ++ bothL k i = L1 at *
              go_wp2_with (first
                | (go_at_call 44
                   first
                   | (with_reducible refine (hk2.out _).mono ?_
                      rintro e vB ⟨rfl, hb⟩
                      have HO3 := Aside0.mk (Kd.R_below HO1.out hb)
                      have HB3 := Aside0.mk (HB1.out.trans (hb.mono HB1.out.size))
                      clear hb)
                   | (with_reducible refine (hk1.out _).mono ?_
                      rintro e vA ⟨rfl, hb⟩
                      have HO1 := Aside0.mk (Kd.R_below hO.out hb)
                      have HB1 := Aside0.mk (hB.out.trans (hb.mono hB.out.size))
                      clear hb))
                | fail)
              go_roundw
              case rel =>
                repeat apply Exists.intro
                refine ⟨?_, rfl⟩
                exact ⟨i + 1, by omega, by go_num, ⟨by rw [HE.out]; first | exact HO3.out | (have := HO3.out; simpa using this)⟩, HB3⟩
              case measure => simp [intOf]; omega
        · obtain rfl : i = 64 := by omega
          go_wp2
          go_ret
          exact ⟨_, rfl, hO.out, hB.out⟩
end Go.Proofs.Ytdnidnonjbjgmaa.Ext
