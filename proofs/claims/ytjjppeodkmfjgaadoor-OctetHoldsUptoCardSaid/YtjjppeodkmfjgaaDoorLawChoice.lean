/- liverylaw01.OctetChoice: true. -/
import Derived.Test.YtjjppeodkmfjgaaDoorXors
import Derived.Test.YtjjppeodkmfjgaaDoorLawHexes
namespace Go.Proofs.YtjjppeodkmfjgaaDoor.Ext
set_option linter.unusedVariables false
open Go.RowKit Go.Proofs.YtjjppeodkmfjgaaDoorW.PrintWords Go.Proofs.YtjjppeodkmfjgaaDoorW.PrintLast Go.Proofs.YtjjppeodkmfjgaaDoorW.PrintMore

theorem bits1_zero (x : Int) (h : 0 ≤ x ∧ x ≤ 255) : (bits1 x).count true = 0 ↔ x = 0 := by
  obtain ⟨n, rfl, hn⟩ := nat_of h
  have : ∀ n : Fin 256, (bits1 ((n.val : Nat) : Int)).count true = 0 ↔ n.val = 0 := by decide +kernel
  rw [this ⟨n, hn⟩]
  simp only
  omega
theorem count_zero : ∀ X : List Int, Bytes X → ((bitsS X).count true = 0 ↔ ∀ x ∈ X, x = 0)
  | [], _ => by simp [bitsS]
  | x :: t, h => by
    have h1 := bits1_zero x (h x (by simp))
    have h2 := count_zero t (fun y hy => h y (by simp [hy]))
    have e : bitsS (x :: t) = bits1 x ++ bitsS t := rfl
    rw [e, List.count_append, List.forall_mem_cons, ← h1, ← h2]
    omega
theorem xorS_zero (a b : List Int) (ha : Bytes a) (hb : Bytes b) (h : a.length = b.length) : (∀ x ∈ xorS a b, x = 0) ↔ a = b := by
  constructor
  · intro hz
    apply List.ext_getElem h
    intro i h1 h2
    have hm : (xorS a b)[i]'(by rw [xorS_len a b h]; exact h1) ∈ xorS a b := List.getElem_mem _
    have hz2 := hz _ hm
    simp only [xorS, List.getElem_zipWith] at hz2
    exact (xor_zero (ha _ (List.getElem_mem _)) (hb _ (List.getElem_mem _))).1 hz2
  · rintro rfl x hx
    obtain ⟨i, hi, rfl⟩ := List.getElem_of_mem hx
    simp only [xorS, List.getElem_zipWith]
    exact (xor_zero (ha _ (List.getElem_mem _)) (ha _ (List.getElem_mem _))).2 rfl
theorem drawn_trans {w w' w'' : World} (h : Drawn0 w w') (h' : Drawn0 w' w'') : Drawn0 w w'' := by obtain ⟨n, rfl⟩ := h; obtain ⟨m, rfl⟩ := h'; exact ⟨⟨n + m, World.drewN_drewN ..⟩⟩
theorem C_drawn {α : Type} {d : Kd α} {w w' : World} {A : Option Addr} {n : Nat} {l : List α} (h : d.C w A n l) (hd : Drawn0 w w') : d.C w' A n l := Kd.C_below h hd.below
/-- a call whose answer is a slice and a code -/
theorem count_same (a b : List Int) (ha : Bytes a) (hb : Bytes b) (h : a.length = b.length) : (((bitsS (xorS a b)).count true : Nat) : Int) = 0 ↔ a = b := by
  rw [← xorS_zero a b ha hb h, ← count_zero _ (xorS_bytes a b ha hb)]
  omega
theorem count_take (l : List Bool) (i : Nat) (h : i < l.length) : (l.take (i + 1)).count true = (l.take i).count true + (if rdOf false l (i : Int) = true then 1 else 0) := by
  rw [takeb_snoc l i h, List.count_append]
  congr 1
  generalize rdOf false l (i : Int) = b
  cases b <;> rfl
theorem chooseS_t {a b : List Int} (h : a.length = b.length) : chooseS true a b = (a, 0) := by unfold chooseS; rw [if_pos h]; rfl
theorem chooseS_f {a b : List Int} (h : a.length = b.length) : chooseS false a b = (b, 0) := by unfold chooseS; rw [if_pos h]; rfl
theorem chooseS_n {f : Bool} {a b : List Int} (h : ¬ a.length = b.length) : chooseS f a b = ([], 1) := by unfold chooseS; rw [if_neg h]
theorem xor2S_t {a b : List Int} (h : a.length = b.length) : xor2S a b = (xorS a b, 0) := by unfold xor2S; rw [if_pos h]
theorem xor2S_n {a b : List Int} (h : ¬ a.length = b.length) : xor2S a b = ([], 1) := by unfold xor2S; rw [if_neg h]
set_option maxHeartbeats 4000000 in
set_option maxRecDepth 100000 in
theorem law_Choice (A : Option Addr) (c : Nat) (a : List Int) (A' : Option Addr) (c' : Nat) (b : List Int) (w : World) (hT : Lib.Utf8Tabs 0 1 w) (hC : Kd.C (Kd.int .u8) w A a.length a) (hc : a.length ≤ c) (ha : Bytes a) (hl : a.length ≤ 1048576) (hC' : Kd.C (Kd.int .u8) w A' b.length b) (hc' : b.length ≤ c') (hb : Bytes b) (hl' : b.length ≤ 1048576) :
    Calls Tryd.prog 8 #[.slice A a.length c, .slice A' b.length c'] w fun e w' => e = .returned (.bool true) ∧ Below w.heap.size w w' := by
  have CL := Lib.hid live_walk
  have HT := Lib.hid hT
  have HC := Aside0.mk hC
  have HC' := Aside0.mk hC'
  have k1 := fun W h h' => P.octet_Choose.calls (a.length + 2) true A c a A' c' b (chooseS true a b).1 (chooseS true a b).2 W h hc h' hc' (choose_f true a b ha hb hl)
  have k2 := fun W h h' => P.octet_Choose.calls (a.length + 2) false A c a A' c' b (chooseS false a b).1 (chooseS false a b).2 W h hc h' hc' (choose_f false a b ha hb hl)
  have k3 := fun W h h' => P.octet_Xor.calls (a.length + 1) A c a A' c' b (xor2S a b).1 (xor2S a b).2 W h hc h' hc' (xor_f a b hl)
  have k5 := fun W h h' => P.octet_Same.calls (a.length + 1) A c a A' c' b _ W h hc h' hc' (same_f a b ha hb hl)
  have k6 := fun W h => P.octet_Same.calls (a.length + 1) A c a A c a _ W h hc h hc (same_f a a ha ha hl)
  by_cases hlen : a.length = b.length
  · have hXl := xorS_len a b hlen
    have hbits := bitsS_len (xorS a b)
    have hXb := xorS_bytes a b ha hb
    have hback := xorS_back a b ha hb hlen
    have hcs := count_same a b ha hb hlen
    have k4 := fun A2 c2 (hc2 : (xorS a b).length ≤ c2) W h h' => P.octet_Xor.calls ((xorS a b).length + 1) A2 c2 (xorS a b) A' c' b (xor2S (xorS a b) b).1 (xor2S (xorS a b) b).2 W h hc2 h' hc' (xor_f (xorS a b) b (by omega))
    have k7 := fun A2 c2 (hc2 : (xorS a b).length ≤ c2) W h => P.octet_Bits.calls (10 * (xorS a b).length + 1) A2 c2 (xorS a b) _ W h hc2 (bits_f (xorS a b) hXb (by omega))
    rw [chooseS_t hlen] at k1
    rw [chooseS_f hlen] at k2
    rw [xor2S_t hlen] at k3
    rw [xor2S_t (hXl.trans hlen), hback] at k4
    rw [decide_eq_true rfl] at k6
    rw [hXl] at hbits
    simp only at k1 k2 k3 k4
    generalize xorS a b = X at *
    have j1 := Lib.hid k1
    have j2 := Lib.hid k2
    have j3 := Lib.hid k3
    have j4 := Lib.hid k4
    have j5 := Lib.hid k5
    have j6 := Lib.hid k6
    have j7 := Lib.hid k7
    have HBITS := Aside0.mk hbits
    have HCS := Aside0.mk hcs
    have HXL := Aside0.mk hXl
    have HLEN := Aside0.mk hlen
    clear k1 k2 k3 k4 k5 k6 k7 hback hXb hT hC hC' ha hb hbits hcs hXl hlen
    go_enter Tryd.func8, Tryd.ntmps8
    go_wp2_with (first
      | (go_at_call 39
         first
         | (with_reducible refine (j2.out _ (Kd.C_below HC.out HB1.out) (Kd.C_below HC'.out HB1.out)).mono ?_
            rintro e v2 ⟨u2, rfl, hr2, hb2⟩
            obtain ⟨A2, c2, rfl, hl2, hC2⟩ := Kd.R_reads hr2
            have HC2 := Aside0.mk hC2
            have HL2 := Aside0.mk hl2
            have HB2 := Aside0.mk (HB1.out.trans (hb2.mono HB1.out.size))
            have HC21 := Aside0.mk (Kd.C_below HC1.out hb2)
            clear hr2 hC2 hl2 hb2)
         | (with_reducible refine (j1.out _ HC.out HC'.out).mono ?_
            rintro e v1 ⟨u1, rfl, hr1, hb1⟩
            obtain ⟨A1, c1, rfl, hl1, hC1⟩ := Kd.R_reads hr1
            have HC1 := Aside0.mk hC1
            have HL1 := Aside0.mk hl1
            have HB1 := Aside0.mk hb1
            clear hr1 hC1 hl1 hb1))
      | (go_at_call 40
         first
         | (with_reducible refine (j4.out A3 c3 HL3.out _ HC3.out (Kd.C_below HC'.out HB3.out)).mono ?_
            rintro e v4 ⟨u4, rfl, hr4, hb4⟩
            obtain ⟨A4, c4, rfl, hl4, hC4⟩ := Kd.R_reads hr4
            have HC4 := Aside0.mk hC4
            have HL4 := Aside0.mk hl4
            have HB4 := Aside0.mk (HB3.out.trans (hb4.mono HB3.out.size))
            have HC41 := Aside0.mk (Kd.C_below HC31.out hb4)
            have HC42 := Aside0.mk (Kd.C_below HC32.out hb4)
            have HC43 := Aside0.mk (Kd.C_below HC3.out hb4)
            clear hr4 hC4 hl4 hb4)
         | (with_reducible refine (j3.out _ (Kd.C_below HC.out HB2.out) (Kd.C_below HC'.out HB2.out)).mono ?_
            rintro e v3 ⟨u3, rfl, hr3, hb3⟩
            obtain ⟨A3, c3, rfl, hl3, hC3⟩ := Kd.R_reads hr3
            have HC3 := Aside0.mk hC3
            have HL3 := Aside0.mk hl3
            have HB3 := Aside0.mk (HB2.out.trans (hb3.mono HB2.out.size))
            have HC31 := Aside0.mk (Kd.C_below HC21.out hb3)
            have HC32 := Aside0.mk (Kd.C_below HC2.out hb3)
            clear hr3 hC3 hl3 hb3))
      | (go_at_call 13
         refine (CL.out _ (Utf8Tabs_below HT.out HB4.out)).mono ?_
         rintro e v5 ⟨rfl, hb5⟩
         have HB5 := Aside0.mk (HB4.out.trans (hb5.mono HB4.out.size))
         have HC51 := Aside0.mk (Kd.C_below HC41.out hb5)
         have HC52 := Aside0.mk (Kd.C_below HC42.out hb5)
         have HC53 := Aside0.mk (Kd.C_below HC43.out hb5)
         have HC54 := Aside0.mk (Kd.C_below HC4.out hb5)
         clear hb5)
      | (go_at_call 17
         with_reducible refine (j7.out A3 c3 HL3.out _ HC53.out).mono ?_
         rintro e v6 ⟨u6, rfl, hr6, hb6⟩
         obtain ⟨A6, c6, rfl, hl6, hC6⟩ := Kd.R_reads hr6
         have HC6 := Aside0.mk hC6
         have HB6 := Aside0.mk (HB5.out.trans (hb6.mono HB5.out.size))
         have HC61 := Aside0.mk (Kd.C_below HC51.out hb6)
         have HC62 := Aside0.mk (Kd.C_below HC52.out hb6)
         have HC64 := Aside0.mk (Kd.C_below HC54.out hb6)
         clear hr6 hC6 hl6 hb6)
      | fail)
    generalize bitsS X = Y at *
    have hY : Y.length ≤ 8388608 := by have := HBITS.out; omega
    go_loopw [13, 68] (fun v13 v68 wr => ∃ i : Nat, i ≤ Y.length ∧ v68 = .int .i64 (i : Int) ∧ v13 = .int .i64 (((Y.take i).count true : Nat) : Int) ∧ wr = v6) (fun _ v68 _ => Y.length - (intOf v68).toNat)
    case atStart => exact ⟨0, by omega, rfl, by simp, rfl⟩
    case round =>
      obtain ⟨i, hi, rfl, rfl, rfl⟩ := hrel
      by_cases hlt : i < Y.length
      · have hti : (i : Int) < (Y.length : Int) := by omega
        obtain ⟨ad1, ea1, hx1⟩ := Kd.at_bool HC6.out (i : Int) (by omega) hti
        subst ea1
        rw [Int.toNat_natCast] at hx1
        have hct := count_take Y i hlt
        have hcl : (Y.take i).count true ≤ i := Nat.le_trans (List.count_le_length) (by rw [List.length_take]; omega)
        have HCT := Aside0.mk hct
        clear hct
        generalize rdOf false Y (i : Int) = bb at *
        generalize (Y.take i).count true = nn at *
        cases bb
        · go_wp2
          go_roundw
          case rel => exact ⟨i + 1, by omega, by go_num, (by rw [HCT.out]; go_num), trivial⟩
          case measure => simp [intOf]; omega
        · go_wp2
          go_roundw
          case rel => exact ⟨i + 1, by omega, by go_num, (by rw [HCT.out]; go_num), trivial⟩
          case measure => simp [intOf]; omega
      · obtain rfl : i = Y.length := by omega
        rw [List.take_length]
        have hcs := HCS.out
        clear HCS
        generalize Y.count true = nn at *
        by_cases hab : a = b
        · have t0 : ((nn : Int) == 0) = true := beq_iff_eq.2 (hcs.2 hab)
          rw [decide_eq_true hab] at j5
          clear hab hcs
          go_wp2_with (first
            | (go_at_call 16
               first
               | (with_reducible refine (P.liveryref01_Equal.calls A2 c2 b A' c' b true _ (C_drawn HC62.out HE2.out) HL2.out (Kd.C_below HC'.out HBE2.out) hc' (eq_same b)).mono ?_
                  rintro e v9 ⟨rfl, hd9⟩
                  have HBE3 := Aside0.mk (below_drawn HBE2.out hd9)
                  clear hd9)
               | (with_reducible refine (P.liveryref01_Equal.calls A1 c1 a A c a true _ (C_drawn HC61.out HE1.out) HL1.out (Kd.C_below HC.out HBE1.out) hc (eq_same a)).mono ?_
                  rintro e v8 ⟨rfl, hd8⟩
                  have HBE2 := Aside0.mk (below_drawn HBE1.out hd8)
                  have HE2 := Aside0.mk (drawn_trans HE1.out hd8)
                  clear hd8)
               | (with_reducible refine (P.liveryref01_Equal.calls A4 c4 a A c a true _ HC64.out HL4.out (Kd.C_below HC.out HB6.out) hc (eq_same a)).mono ?_
                  rintro e v7 ⟨rfl, hd7⟩
                  have HBE1 := Aside0.mk (below_drawn HB6.out hd7)
                  have HE1 := Aside0.mk hd7
                  clear hd7))
            | (go_at_call 41
               first
               | (with_reducible refine (j6.out _ (Kd.C_below HC.out HBS.out)).mono ?_
                  rintro e v11 ⟨rfl, hd11⟩
                  have HBT := Aside0.mk (below_drawn HBS.out hd11)
                  clear hd11)
               | (with_reducible refine (j5.out _ (Kd.C_below HC.out HBE3.out) (Kd.C_below HC'.out HBE3.out)).mono ?_
                  rintro e v10 ⟨rfl, hd10⟩
                  have HBS := Aside0.mk (below_drawn HBE3.out hd10)
                  clear hd10))
            | fail)
          go_ret
          exact ⟨rfl, HBT.out⟩
        · have t0 : ((nn : Int) == 0) = false := beq_eq_false_iff_ne.2 (fun h => hab (hcs.1 h))
          rw [decide_eq_false hab] at j5
          clear hab hcs
          go_wp2_with (first
            | (go_at_call 16
               first
               | (with_reducible refine (P.liveryref01_Equal.calls A2 c2 b A' c' b true _ (C_drawn HC62.out HE2.out) HL2.out (Kd.C_below HC'.out HBE2.out) hc' (eq_same b)).mono ?_
                  rintro e v9 ⟨rfl, hd9⟩
                  have HBE3 := Aside0.mk (below_drawn HBE2.out hd9)
                  clear hd9)
               | (with_reducible refine (P.liveryref01_Equal.calls A1 c1 a A c a true _ (C_drawn HC61.out HE1.out) HL1.out (Kd.C_below HC.out HBE1.out) hc (eq_same a)).mono ?_
                  rintro e v8 ⟨rfl, hd8⟩
                  have HBE2 := Aside0.mk (below_drawn HBE1.out hd8)
                  have HE2 := Aside0.mk (drawn_trans HE1.out hd8)
                  clear hd8)
               | (with_reducible refine (P.liveryref01_Equal.calls A4 c4 a A c a true _ HC64.out HL4.out (Kd.C_below HC.out HB6.out) hc (eq_same a)).mono ?_
                  rintro e v7 ⟨rfl, hd7⟩
                  have HBE1 := Aside0.mk (below_drawn HB6.out hd7)
                  have HE1 := Aside0.mk hd7
                  clear hd7))
            | (go_at_call 41
               first
               | (with_reducible refine (j6.out _ (Kd.C_below HC.out HBS.out)).mono ?_
                  rintro e v11 ⟨rfl, hd11⟩
                  have HBT := Aside0.mk (below_drawn HBS.out hd11)
                  clear hd11)
               | (with_reducible refine (j5.out _ (Kd.C_below HC.out HBE3.out) (Kd.C_below HC'.out HBE3.out)).mono ?_
                  rintro e v10 ⟨rfl, hd10⟩
                  have HBS := Aside0.mk (below_drawn HBE3.out hd10)
                  clear hd10))
            | fail)
          go_ret
          exact ⟨rfl, HBT.out⟩
  · have hab : a ≠ b := by rintro rfl; exact hlen rfl
    have k4 := fun A2 c2 W h h' => P.octet_Xor.calls (([] : List Int).length + 1) A2 c2 [] A' c' b (xor2S [] b).1 (xor2S [] b).2 W h (by simp) h' hc' (xor_f [] b (by simp))
    rw [chooseS_n hlen] at k1 k2
    rw [xor2S_n hlen] at k3
    rw [decide_eq_false hab] at k5
    generalize xor2S [] b = Z at *
    obtain ⟨z1, z2⟩ := Z
    simp only at k1 k2 k3 k4
    simp only [List.length_nil] at k4
    have j1 := Lib.hid k1
    have j2 := Lib.hid k2
    have j3 := Lib.hid k3
    have j4 := Lib.hid k4
    have j5 := Lib.hid k5
    have tl : ((a.length : Int) != (b.length : Int)) = true := bne_iff_ne.2 (by omega)
    have tl2 : ¬ (a.length : Int) = (b.length : Int) := by omega
    clear k1 k2 k3 k4 k5 k6 hT hC hC' ha hb hab hlen
    go_enter Tryd.func8, Tryd.ntmps8
    go_wp2_with (first
      | (go_at_call 39
         first
         | (with_reducible refine (j2.out _ (Kd.C_below HC.out HB1.out) (Kd.C_below HC'.out HB1.out)).mono ?_
            rintro e v2 ⟨u2, rfl, hr2, hb2⟩
            have HB2 := Aside0.mk (HB1.out.trans (hb2.mono HB1.out.size))
            clear hr2 hb2)
         | (with_reducible refine (j1.out _ HC.out HC'.out).mono ?_
            rintro e v1 ⟨u1, rfl, hr1, hb1⟩
            have HB1 := Aside0.mk hb1
            clear hr1 hb1))
      | (go_at_call 40
         first
         | (with_reducible refine (j4.out A3 c3 _ HC3.out (Kd.C_below HC'.out HB3.out)).mono ?_
            rintro e v4 ⟨u4, rfl, hr4, hb4⟩
            have HB4 := Aside0.mk (HB3.out.trans (hb4.mono HB3.out.size))
            clear hr4 hb4)
         | (with_reducible refine (j3.out _ (Kd.C_below HC.out HB2.out) (Kd.C_below HC'.out HB2.out)).mono ?_
            rintro e v3 ⟨u3, rfl, hr3, hb3⟩
            obtain ⟨A3, c3, rfl, hl3, hC3⟩ := Kd.R_reads hr3
            have HC3 := Aside0.mk (show Kd.C (Kd.int .u8) v3 A3 0 [] from hC3)
            have HB3 := Aside0.mk (HB2.out.trans (hb3.mono HB2.out.size))
            clear hr3 hC3 hl3 hb3))
      | (go_at_call 13
         refine (CL.out _ (Utf8Tabs_below HT.out HB4.out)).mono ?_
         rintro e v5 ⟨rfl, hb5⟩
         have HB5 := Aside0.mk (HB4.out.trans (hb5.mono HB4.out.size))
         clear hb5)
      | (go_at_call 41
         refine (j5.out _ (Kd.C_below HC.out HB5.out) (Kd.C_below HC'.out HB5.out)).mono ?_
         rintro e v10 ⟨rfl, hd10⟩
         have HBS := Aside0.mk (below_drawn HB5.out hd10)
         clear hd10)
      | fail)
    go_ret
    exact ⟨rfl, HBS.out⟩
end Go.Proofs.YtjjppeodkmfjgaaDoor.Ext
