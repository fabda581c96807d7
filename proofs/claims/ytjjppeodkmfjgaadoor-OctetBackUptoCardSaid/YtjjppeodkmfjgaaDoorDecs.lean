/- liveryref01.Decimal, plainly; octet.Number, liveryref01.Digits. -/
import Derived.Test.YtjjppeodkmfjgaaDoorUnhexes
import Derived.Test.YtjjppeodkmfjgaaDoorP3
namespace Go.Proofs.YtjjppeodkmfjgaaDoor.Ext
set_option linter.unusedVariables false
open Go.RowKit Go.Proofs.YtjjppeodkmfjgaaDoorW.PrintWords Go.Proofs.YtjjppeodkmfjgaaDoorW.PrintLast Go.Proofs.YtjjppeodkmfjgaaDoorW.PrintMore

theorem ext_dig (d : Nat) (h : d < 10) : (⟨#[48, 49, 50, 51, 52, 53, 54, 55, 56, 57, 97, 98, 99, 100, 101, 102]⟩ : ByteArray).extract d (d + 1) = strOfNums [48 + (d : Int)] := by
  obtain rfl | rfl | rfl | rfl | rfl | rfl | rfl | rfl | rfl | rfl : d = 0 ∨ d = 1 ∨ d = 2 ∨ d = 3 ∨ d = 4 ∨ d = 5 ∨ d = 6 ∨ d = 7 ∨ d = 8 ∨ d = 9 := by omega
  all_goals rfl
theorem u64w (x : Int) (h : 0 ≤ x ∧ x ≤ 18446744073709551615) : IntKind.u64.wrap x = x := by rw [IntKind.wrap_u64]; omega
theorem rdec_l0 : ∀ (k x : Nat) (S : List Int), x < 10 ^ (k + 1) → x < 18446744073709551616 → S.length + k ≤ 100 → P.liveryref01_Decimal.l0 (k + 1) (x : Int) (strOfNums ([48 + ((x % 10 : Nat) : Int)] ++ S)) = some (strOfNums (decL x ++ S))
  | k, x, S, hx, h64, hS => by
    rw [P.liveryref01_Decimal.l0]
    by_cases h : x < 10
    · rw [if_neg (by omega), decL_lt h, Nat.mod_eq_of_lt h]
    · cases k with
      | zero => omega
      | succ k =>
        have hx2 : x / 10 < 10 ^ (k + 1) := by rw [Nat.pow_succ] at hx; omega
        have e1 : IntKind.u64.wrap (Int.tdiv (x : Int) 10) = ((x / 10 : Nat) : Int) := by rw [Int.tdiv_eq_ediv_of_nonneg (by omega), u64w _ (by omega)]; omega
        have e2 : Int.tmod ((x / 10 : Nat) : Int) 10 = ((x / 10 % 10 : Nat) : Int) := by rw [Int.tmod_eq_emod_of_nonneg (by omega)]; omega
        have e3 : IntKind.u64.wrap (((x / 10 % 10 : Nat) : Int) + 1) = ((x / 10 % 10 + 1 : Nat) : Int) := by rw [u64w _ (by omega)]; omega
        rw [if_pos (by omega), e1, e2, e3, if_pos (by omega), if_pos (by omega), if_pos (by omega), Int.toNat_natCast, Int.toNat_natCast, ext_dig _ (by omega), strOfNums_size, strOfNums_size, if_pos (by simp; omega), ← strOfNums_append]
        have ih := rdec_l0 k (x / 10) ([48 + ((x % 10 : Nat) : Int)] ++ S) hx2 (by omega) (by simp; omega)
        rw [ih, decL_ge h]
        simp
theorem rdec_f (n : Nat) (hn : n < 18446744073709551616) : P.liveryref01_Decimal.f 20 (n : Int) = some (strOfNums (decL n)) := by
  unfold P.liveryref01_Decimal.f
  have e2 : Int.tmod (n : Int) 10 = ((n % 10 : Nat) : Int) := by rw [Int.tmod_eq_emod_of_nonneg (by omega)]; omega
  have e3 : IntKind.u64.wrap (((n % 10 : Nat) : Int) + 1) = ((n % 10 + 1 : Nat) : Int) := by rw [u64w _ (by omega)]; omega
  rw [e2, e3, if_pos (by omega), if_pos (by omega), if_pos (by omega), Int.toNat_natCast, Int.toNat_natCast, ext_dig _ (by omega)]
  have := rdec_l0 19 n [] (by omega) hn (by simp)
  simpa using this
def stepN (n : Int) (r : Nat) : Int := IntKind.u64.wrap (IntKind.u64.wrap (n * 10) + ((r : Int) - 48))
def numR : List Nat → Int → Option Int
  | [], n => some n
  | r :: t, n => if 48 ≤ r ∧ r ≤ 57 then numR t (stepN n r) else none
def numS (s : ByteArray) : Int × Int :=
  if s.size = 0 ∨ 20 < s.size then (0, 12) else match numR (rv (runesOf s)) 0 with
    | none => (0, 12)
    | some n => if strOfNums (decL n.toNat) = s then (n, 0) else (0, 12)
theorem str_ne {a b : ByteArray} (h : a ≠ b) : (a.toList == b.toList) = false := by
  rw [beq_eq_false_iff_ne, ByteArray.toList_eq, ByteArray.toList_eq]
  exact fun e => h (Go.WideShapes.bytes_inj e)
theorem decL_pos (n : Nat) : 0 < (decL n).length := by rw [decL]; split <;> simp
theorem stepN_bd (n : Int) (r : Nat) : 0 ≤ stepN n r ∧ stepN n r ≤ 18446744073709551615 := by unfold stepN; rw [IntKind.wrap_u64]; omega

set_option maxHeartbeats 4000000 in
set_option maxRecDepth 100000 in
theorem number_walk (s : ByteArray) (w : World) (hs : s.size ≤ 140737488351232) :
    Calls Tryd.prog 24 #[.string s] w fun e w' => e = .returned (.tuple #[.int .u64 (numS s).1, .int .i64 (numS s).2]) ∧ Below w.heap.size w w' := by
  obtain ⟨U, hU⟩ : ∃ U, numS s = U := ⟨_, rfl⟩
  have HU := Lib.hid hU
  rw [hU]
  clear hU
  go_enter Tryd.func24, Tryd.ntmps24
  go_wp2
  go_loopw [4] (fun v4 wr => ∃ (pos fuel : Nat) (n : Int), v4 = .int .u64 n ∧ wr.heap[w.heap.size]? = some (.stringIter s pos) ∧ Aside0 (s.size ≤ pos + fuel ∧ (pos = 0 ∨ s.size ≤ 20) ∧ (s.size ≤ 20 → numR (rv (rns s fuel pos)) n = numR (rv (runesOf s)) 0)) ∧ (0 ≤ n ∧ n ≤ 18446744073709551615) ∧ Aside0 (Below w.heap.size w wr)) (fun _ wr => s.size - wr.iterPos w.heap.size)
  case atStart => exact ⟨0, s.size, 0, rfl, iter_new w s, ⟨by omega, .inl rfl, fun _ => rfl⟩, by omega, ⟨below_iter w s⟩⟩
  case round =>
    obtain ⟨pos, fuel, n, rfl, hit, hR, hn, hB⟩ := hrel
    have hn0 := hn.1
    have hn1 := hn.2
    clear hn
    by_cases hp : pos < s.size
    · have hw1 := Lib.decode_width_pos s pos hp
      obtain ⟨f2, hf2, he2⟩ := rns_step s fuel pos hp hR.out.1
      have hnx := fun ty => Lib.run_next_any_at (P := Tryd.prog) wr w.heap.size s pos ty hit hp
      have hd3 := decode_le s pos
      have HI0 := Lib.iterAt_heap wr w.heap.size s pos (pos + (Utf8.decode s pos).2) hit
      have HB0 := Lib.below_iterAt hB.out (Nat.le_refl _) s (pos + (Utf8.decode s pos).2)
      have HM0 := iter_less hw1 hit hp
      generalize hd : Utf8.decode s pos = d at *
      obtain ⟨r, wd⟩ := d
      simp only at *
      have hR1 := hR.out.2
      rw [he2] at hR1
      simp only [rv, List.map_cons, numR] at hR1
      have HBI := Aside0.mk HB0
      have HII := Aside0.mk HI0
      have HMM : Aside0 (s.size - (pos + wd) < s.size - wr.iterPos w.heap.size) := ⟨by rwa [iterPos_of HI0] at HM0⟩
      have hF := Aside0.mk hf2
      clear hd he2 hf2 hR HI0 HB0 HM0 hB
      have hcond : (48 ≤ r ∧ r ≤ 57 ∧ s.size ≤ 20) ∨ (r < 48 ∨ 57 < r ∨ 20 < s.size) := by omega
      rcases hcond with ⟨h1, h2, h3⟩ | hbad
      · rw [if_pos ⟨h1, h2⟩] at hR1
        have HR := Aside0.mk hR1
        have t1 : ¬ (r : Int) < 48 := by omega
        have t2 : ¬ (57 : Int) < (r : Int) := by omega
        have t3 : ¬ (20 : Int) < (s.size : Int) := by omega
        have hsb := stepN_bd n r
        clear hR1 h1 h2
        go_wp2
        go_roundw
        case rel => exact ⟨pos + wd, f2, stepN n r, rfl, HII.out, ⟨hF.out, .inr h3, HR.out.2⟩, hsb, HBI⟩
        case measure => rw [iterPos_of HII.out]; exact HMM.out
      · have hU : U = (0, 12) := by
          rw [← HU.out]
          unfold numS
          by_cases h3 : 20 < s.size
          · rw [if_pos (.inr h3)]
          · rw [if_neg (by omega), show rv (runesOf s) = List.map (fun x => x.2.1) (runesOf s) from rfl, ← hR1.2 (by omega), if_neg (by omega)]
        subst hU
        clear hR1
        by_cases h1 : r < 48
        · have t1 : (r : Int) < 48 := by omega
          clear hbad
          go_wp2
          exact bodyPost_ret (v := .tuple #[.int .u64 0, .int .i64 12]) (by simp [results, Tryd.results24, go_sem]) rfl ⟨rfl, HBI.out⟩
        · have t1 : ¬ (r : Int) < 48 := by omega
          by_cases h2 : 57 < r
          · have t2 : (57 : Int) < (r : Int) := by omega
            clear hbad
            go_wp2
            exact bodyPost_ret (v := .tuple #[.int .u64 0, .int .i64 12]) (by simp [results, Tryd.results24, go_sem]) rfl ⟨rfl, HBI.out⟩
          · have t2 : ¬ (57 : Int) < (r : Int) := by omega
            have t3 : (20 : Int) < (s.size : Int) := by omega
            clear hbad
            go_wp2
            exact bodyPost_ret (v := .tuple #[.int .u64 0, .int .i64 12]) (by simp [results, Tryd.results24, go_sem]) rfl ⟨rfl, HBI.out⟩
    · have hnx := fun ty => Lib.run_next_end_at (P := Tryd.prog) wr w.heap.size s pos ty hit hp
      have hR1 := hR.out.2
      rw [rns_end s fuel pos hp] at hR1
      simp only [rv, List.map_nil, numR] at hR1
      have h20 : s.size ≤ 20 := by omega
      have hnum := hR1.2 h20
      have cd := Lib.hid (fun W => octet_Decimal.calls n (strOfNums (decL n.toNat)) W (by unfold octet_Decimal.f; rw [if_pos hn0, if_pos (by omega)]))
      have hHU := HU.out
      unfold numS at hHU
      rw [show rv (runesOf s) = List.map (fun x => x.2.1) (runesOf s) from rfl, ← hnum] at hHU
      simp only at hHU
      by_cases he : strOfNums (decL n.toNat) = s
      · have hne : s.size ≠ 0 := by rw [← he, strOfNums_size]; have := decL_pos n.toNat; omega
        rw [if_neg (by omega), if_pos he] at hHU
        subst hHU
        rw [he] at cd
        clear hR1 hR hnum he
        go_wp2_with (first
          | (go_at_call 26; refine (cd.out _).mono ?_; rintro e v1 ⟨rfl, hb1⟩)
          | fail)
        exact bodyPost_ret (v := .tuple #[.int .u64 n, .int .i64 0]) (by simp [results, Tryd.results24, go_sem]) rfl ⟨rfl, hB.out.trans (hb1.mono hB.out.size)⟩
      · have hU : U = (0, 12) := by
          rw [if_neg he, ite_self] at hHU
          exact hHU.symm
        subst hU
        clear hR1 hR hnum hHU
        have te := str_ne he
        generalize strOfNums (decL n.toNat) = D at *
        go_wp2_with (first
          | (go_at_call 26; refine (cd.out _).mono ?_; rintro e v1 ⟨rfl, hb1⟩)
          | fail)
        exact bodyPost_ret (v := .tuple #[.int .u64 0, .int .i64 12]) (by simp [results, Tryd.results24, go_sem]) rfl ⟨rfl, hB.out.trans (hb1.mono hB.out.size)⟩
/-- the reference's digit, as Digits reads it -/
theorem rd_dec (r : Nat) : (48 ≤ r ∧ r ≤ 57 ∧ (if isd r = true then dv r else -1) = (r : Int) - 48) ∨ (¬ (48 ≤ r ∧ r ≤ 57) ∧ ((if isd r = true then dv r else -1) < 0 ∨ (¬ (if isd r = true then dv r else -1) < 0 ∧ 9 < (if isd r = true then dv r else -1)))) := by
  by_cases h : 48 ≤ r ∧ r ≤ 57
  · left
    refine ⟨h.1, h.2, ?_⟩
    have e : isd r = true := by simp [isd, h]
    rw [if_pos e]
    unfold dv
    rw [if_pos h.2]
  · right
    refine ⟨h, ?_⟩
    by_cases e : isd r = true
    · right
      rw [if_pos e]
      unfold isd at e
      unfold dv
      simp at e
      rw [if_neg (by omega)]
      omega
    · left
      rw [if_neg e]
      omega
set_option maxHeartbeats 4000000 in
set_option maxRecDepth 100000 in
theorem digits_walk (s : ByteArray) (w : World) (hs : s.size ≤ 140737488351232) :
    Calls Tryd.prog 25 #[.string s] w fun e w' => e = .returned (.tuple #[.int .u64 (numS s).1, .int .i64 (numS s).2]) ∧ Below w.heap.size w w' := by
  obtain ⟨U, hU⟩ : ∃ U, numS s = U := ⟨_, rfl⟩
  have HU := Lib.hid hU
  rw [hU]
  clear hU
  by_cases hsz : 1 ≤ s.size ∧ s.size ≤ 20
  · have q1 : ¬ (s.size : Int) < 1 := by omega
    have q2 : ¬ (20 : Int) < (s.size : Int) := by omega
    go_enter Tryd.func25, Tryd.ntmps25
    go_wp2
    go_loopw [4] (fun v4 wr => ∃ (pos fuel : Nat) (n : Int), v4 = .int .u64 n ∧ wr.heap[w.heap.size]? = some (.stringIter s pos) ∧ Aside0 (s.size ≤ pos + fuel ∧ numR (rv (rns s fuel pos)) n = numR (rv (runesOf s)) 0) ∧ (0 ≤ n ∧ n ≤ 18446744073709551615) ∧ Aside0 (Below w.heap.size w wr)) (fun _ wr => s.size - wr.iterPos w.heap.size)
    case atStart => exact ⟨0, s.size, 0, rfl, iter_new w s, ⟨by omega, rfl⟩, by omega, ⟨below_iter w s⟩⟩
    case round =>
      obtain ⟨pos, fuel, n, rfl, hit, hR, hn, hB⟩ := hrel
      have hn0 := hn.1
      have hn1 := hn.2
      clear hn
      by_cases hp : pos < s.size
      · have hw1 := Lib.decode_width_pos s pos hp
        obtain ⟨f2, hf2, he2⟩ := rns_step s fuel pos hp hR.out.1
        have hnx := fun ty => Lib.run_next_any_at (P := Tryd.prog) wr w.heap.size s pos ty hit hp
        have hd3 := decode_le s pos
        have HI0 := Lib.iterAt_heap wr w.heap.size s pos (pos + (Utf8.decode s pos).2) hit
        have HB0 := Lib.below_iterAt hB.out (Nat.le_refl _) s (pos + (Utf8.decode s pos).2)
        have HM0 := iter_less hw1 hit hp
        generalize hd : Utf8.decode s pos = d at *
        obtain ⟨r, wd⟩ := d
        simp only at *
        have hR1 := hR.out.2
        rw [he2] at hR1
        simp only [rv, List.map_cons, numR] at hR1
        have HBI := Aside0.mk HB0
        have HII := Aside0.mk HI0
        have HMM : Aside0 (s.size - (pos + wd) < s.size - wr.iterPos w.heap.size) := ⟨by rwa [iterPos_of HI0] at HM0⟩
        have hF := Aside0.mk hf2
        have Cd := fun W => c_rdigit r W hd3
        have hrd := rd_dec r
        generalize (if isd r = true then dv r else -1) = dd at *
        have cd := Lib.hid Cd
        clear hd he2 hf2 hR HI0 HB0 HM0 hB Cd
        rcases hrd with ⟨h1, h2, rfl⟩ | ⟨h1, h2⟩
        · rw [if_pos ⟨h1, h2⟩] at hR1
          have HR := Aside0.mk hR1
          have t1 : ¬ (r : Int) - 48 < 0 := by omega
          have t2 : ¬ (9 : Int) < (r : Int) - 48 := by omega
          have hsb := stepN_bd n r
          clear hR1 h1 h2
          go_wp2_with (first
            | (go_at_call 47
               refine (cd.out _).mono ?_
               rintro e v1 ⟨rfl, hdr⟩
               have HI1 := Aside0.mk (iter_drawn HII.out hdr)
               have HB1 := Aside0.mk (below_drawn HBI.out hdr)
               clear hdr)
            | fail)
          go_roundw
          case rel => exact ⟨pos + wd, f2, stepN n r, rfl, HI1.out, ⟨hF.out, HR.out⟩, hsb, HB1⟩
          case measure => rw [iterPos_of HI1.out]; exact HMM.out
        · rw [if_neg h1] at hR1
          have hU : U = (0, 12) := by
            rw [← HU.out]
            unfold numS
            rw [if_neg (by omega), show rv (runesOf s) = List.map (fun x => x.2.1) (runesOf s) from rfl, ← hR1]
          subst hU
          clear hR1 h1
          rcases h2 with t1 | ⟨t1, t2⟩
          · go_wp2_with (first
              | (go_at_call 47
                 refine (cd.out _).mono ?_
                 rintro e v1 ⟨rfl, hdr⟩
                 have HB1 := Aside0.mk (below_drawn HBI.out hdr)
                 clear hdr)
              | fail)
            exact bodyPost_ret (v := .tuple #[.int .u64 0, .int .i64 12]) (by simp [results, Tryd.results25, go_sem]) rfl ⟨rfl, HB1.out⟩
          · go_wp2_with (first
              | (go_at_call 47
                 refine (cd.out _).mono ?_
                 rintro e v1 ⟨rfl, hdr⟩
                 have HB1 := Aside0.mk (below_drawn HBI.out hdr)
                 clear hdr)
              | fail)
            exact bodyPost_ret (v := .tuple #[.int .u64 0, .int .i64 12]) (by simp [results, Tryd.results25, go_sem]) rfl ⟨rfl, HB1.out⟩
      · have hnx := fun ty => Lib.run_next_end_at (P := Tryd.prog) wr w.heap.size s pos ty hit hp
        have hnum := hR.out.2
        rw [rns_end s fuel pos hp] at hnum
        simp only [rv, List.map_nil, numR] at hnum
        have cd := Lib.hid (fun W => P.liveryref01_Decimal.calls 20 n (strOfNums (decL n.toNat)) W (by
          have := rdec_f n.toNat (by omega)
          rwa [Int.toNat_of_nonneg hn0] at this))
        have hHU := HU.out
        unfold numS at hHU
        rw [show rv (runesOf s) = List.map (fun x => x.2.1) (runesOf s) from rfl, ← hnum] at hHU
        simp only at hHU
        rw [if_neg (by omega)] at hHU
        by_cases he : strOfNums (decL n.toNat) = s
        · rw [if_pos he] at hHU
          subst hHU
          rw [he] at cd
          clear hR hnum he
          go_wp2_with (first
            | (go_at_call 27; refine (cd.out _).mono ?_; rintro e v1 ⟨rfl, hb1⟩)
            | fail)
          exact bodyPost_ret (v := .tuple #[.int .u64 n, .int .i64 0]) (by simp [results, Tryd.results25, go_sem]) rfl ⟨rfl, below_drawn hB.out hb1⟩
        · rw [if_neg he] at hHU
          subst hHU
          clear hR hnum
          have te := str_ne he
          generalize strOfNums (decL n.toNat) = D at *
          go_wp2_with (first
            | (go_at_call 27; refine (cd.out _).mono ?_; rintro e v1 ⟨rfl, hb1⟩)
            | fail)
          exact bodyPost_ret (v := .tuple #[.int .u64 0, .int .i64 12]) (by simp [results, Tryd.results25, go_sem]) rfl ⟨rfl, below_drawn hB.out hb1⟩
  · have hU : U = (0, 12) := by
      rw [← HU.out]
      unfold numS
      rw [if_pos (by omega)]
    subst hU
    by_cases h0 : s.size < 1
    · have q1 : (s.size : Int) < 1 := by omega
      go_enter Tryd.func25, Tryd.ntmps25
      go_wp2
      exact bodyPost_ret (v := .tuple #[.int .u64 0, .int .i64 12]) (by simp [results, Tryd.results25, go_sem]) rfl ⟨rfl, Below.refl _ _⟩
    · have q1 : ¬ (s.size : Int) < 1 := by omega
      have q2 : (20 : Int) < (s.size : Int) := by omega
      go_enter Tryd.func25, Tryd.ntmps25
      go_wp2
      exact bodyPost_ret (v := .tuple #[.int .u64 0, .int .i64 12]) (by simp [results, Tryd.results25, go_sem]) rfl ⟨rfl, Below.refl _ _⟩
end Go.Proofs.YtjjppeodkmfjgaaDoor.Ext
