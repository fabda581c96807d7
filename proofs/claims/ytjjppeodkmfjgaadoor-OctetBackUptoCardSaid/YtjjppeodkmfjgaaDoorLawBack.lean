/- liverylaw01.OctetBack: true. -/
import Derived.Test.YtjjppeodkmfjgaaDoorUnqBack
import Derived.Test.YtjjppeodkmfjgaaDoorLawBits
namespace Go.Proofs.YtjjppeodkmfjgaaDoor.Ext
set_option linter.unusedVariables false
open Go.RowKit Go.Proofs.YtjjppeodkmfjgaaDoorW.PrintWords Go.Proofs.YtjjppeodkmfjgaaDoorW.PrintLast Go.Proofs.YtjjppeodkmfjgaaDoorW.PrintMore

theorem bigK_bytes (n m : Nat) : Bytes (bigK n m m) := by
  intro x hx
  rw [bigK_full, List.mem_map] at hx
  obtain ⟨j, _, rfl⟩ := hx
  omega
theorem quoteF_len (s : ByteArray) : ∀ (f pos : Nat), (quoteF s (rns s f pos)).length ≤ 4 * (s.size - pos)
  | 0, pos => by simp [rns, quoteF]
  | f + 1, pos => by
    unfold rns
    by_cases h : pos < s.size
    · have hw := Lib.decode_width_pos s pos h
      have hwl := width_le s pos h
      have hp := quoteP_len s pos h
      rw [if_pos h]
      have ih := quoteF_len s f (pos + (Utf8.decode s pos).2)
      unfold quoteF at ih ⊢
      rw [List.flatMap_cons, List.length_append]
      omega
    · rw [if_neg h]; simp [quoteF]
theorem quoteS_len (s : ByteArray) : (quoteS s).size ≤ 4 * s.size + 2 := by
  unfold quoteS runesOf
  rw [strOfNums_size]
  have := quoteF_len s s.size 0
  simp
  omega
theorem unqL_len : ∀ (f : Nat) (q : ByteArray) (out l : List Int), unqL f q out = some l → l.length ≤ out.length + q.size
  | 0, q, out, l, h => by simp only [unqL, Option.some.injEq] at h; subst h; omega
  | f + 1, q, out, l, h => by
    rw [unqL] at h
    by_cases h0 : q.size = 0
    · rw [if_pos h0] at h
      obtain rfl := Option.some.inj h
      omega
    · rw [if_neg h0] at h
      by_cases hk : (takenS q).2.2 = true
      · rw [if_pos hk] at h
        have := unqL_len f _ _ l h
        have hb := taken_bd q (by omega) hk
        rw [List.length_append, ByteArray.size_extract] at this
        omega
      · rw [if_neg hk] at h; cases h
theorem unqS_len (q : ByteArray) : (unqS q).1.size ≤ q.size := by
  unfold unqS
  split
  · exact Nat.zero_le _
  · split
    · exact Nat.zero_le _
    · rename_i l e
      have := unqL_len _ _ _ _ e
      rw [ByteArray.size_extract] at this
      split
      · rw [strOfNums_size]
        simp at this
        omega
      · exact Nat.zero_le _
set_option maxHeartbeats 8000000 in
set_option maxRecDepth 100000 in
theorem law_Back (n : Nat) (size : Int) (A : Option Addr) (c : Nat) (l : List Int) (s : ByteArray) (w : World) (hT : Lib.Utf8Tabs 0 1 w) (hn : n < 18446744073709551616) (hC : Kd.C (Kd.int .u8) w A l.length l) (hc : l.length ≤ c) (hb : Bytes l) (hl : l.length ≤ 1048576) (hs : s.size ≤ 1048576) :
    Calls Tryd.prog 10 #[.int .u64 n, .int .i64 size, .slice A l.length c, .string s] w fun e w' => e = .returned (.bool true) ∧ Below w.heap.size w w' := by
  have CL := Lib.hid live_walk
  have HT := Lib.hid hT
  have HC := Aside0.mk hC
  have HB := Aside0.mk (Below.refl w.heap.size w)
  have HBV := Aside0.mk (Below.refl w.heap.size w)
  -- digits and back
  have h1 := Lib.hid (fun W h => P.octet_Hex.calls (l.length + 1) A c l _ W h hc (hex_f l hb hl))
  have Q2 := fun W => unhex_walk (strOfNums (hexS l)) W (by rw [strOfNums_size, hexS_len]; omega)
  rw [unhex_hex l hb] at Q2
  simp only at Q2
  have h2 := Lib.hid Q2
  -- quotes and back
  have h3 := Lib.hid (fun W hT => quote_walk s W (by omega) hT)
  have hql := quoteS_len s
  have Q4 := fun W hT => unquote_walk (quoteS s) W (by omega) hT
  rw [unq_quote s] at Q4
  simp only at Q4
  have h4 := Lib.hid Q4
  -- decimals and back
  have h5 := Lib.hid (fun W => octet_Decimal.calls n (strOfNums (decL n)) W (by unfold octet_Decimal.f; rw [if_pos (by omega), if_pos (by omega), Int.toNat_natCast]))
  have hdl := decL_len 19 n (by omega)
  have Q6 := fun W => number_walk (strOfNums (decL n)) W (by rw [strOfNums_size]; omega)
  rw [num_dec n hn] at Q6
  simp only at Q6
  have h6 := Lib.hid Q6
  -- bits and back
  have h7 := Lib.hid (fun W h => P.octet_Bits.calls (10 * l.length + 1) A c l _ W h hc (bits_f l hb hl))
  have Q8 := fun A' c' (hc' : (bitsS l).length ≤ c') W h => P.octet_FromBits.calls ((bitsS l).length + 1) A' c' (bitsS l) _ W h hc' (from_f (bitsS l) (by rw [bitsS_len]; omega))
  rw [from_bits l hb] at Q8
  have h8 := Lib.hid Q8
  have h9 := Lib.hid (fun A' c' W h (hc' : l.length ≤ c') h2 => P.liveryref01_Equal.calls A' c' l A c l true W h hc' h2 hc (eq_same l))
  -- a text as digits, quoted, as a number
  obtain ⟨u1, u2⟩ := unhexS_bytes s
  have Q10 := fun W => unhex_walk s W (by omega)
  have Q11 := fun A' c' (hc' : (unhexS s).1.length ≤ c') W h => P.octet_Hex.calls ((unhexS s).1.length + 1) A' c' (unhexS s).1 _ W h hc' (hex_f (unhexS s).1 u1 (by omega))
  have r11 := hex_unhex s
  have hul := unqS_len s
  have Q12 := fun W hT => unquote_walk s W (by omega) hT
  have Q13 := fun W hT => quote_walk (unqS s).1 W (by omega) hT
  have r13 := quote_unq s
  have Q14 := fun W => number_walk s W (by omega)
  have hnb := numS_bd s
  have Q15 := fun W => octet_Decimal.calls (numS s).1 (strOfNums (decL (numS s).1.toNat)) W (by unfold octet_Decimal.f; rw [if_pos (by omega), if_pos (by omega)])
  have r15 := dec_num s
  generalize strOfNums (hexS l) = T1 at *
  generalize quoteS s = T2 at *
  generalize strOfNums (decL n) = T3 at *
  generalize bitsS l = L1 at *
  generalize strOfNums (hexS (unhexS s).1) = T4 at *
  generalize quoteS (unqS s).1 = T5 at *
  generalize strOfNums (decL (numS s).1.toNat) = T6 at *
  generalize (unhexS s).2.2 = e1 at *
  generalize (unhexS s).2.1 = e0 at *
  generalize (unhexS s).1 = X1 at *
  generalize (unqS s).2 = e2 at *
  generalize (unqS s).1 = X2 at *
  generalize (numS s).2 = e3 at *
  generalize (numS s).1 = X3 at *
  have h10 := Lib.hid Q10
  have h11 := Lib.hid Q11
  have h12 := Lib.hid Q12
  have h13 := Lib.hid Q13
  have h14 := Lib.hid Q14
  have h15 := Lib.hid Q15
  clear Q2 Q4 Q6 Q8 Q10 Q11 Q12 Q13 Q14 Q15 hql hdl hul hnb u1 u2 hT hC hb
  have HN := Aside0.mk hn
  clear hn
  have hsp : (∃ m : Nat, size = m ∧ 1 ≤ m ∧ m ≤ 8 ∧ fitS n size = 0) ∨ fitS n size ≠ 0 := by
    by_cases h : fitS n size = 0
    · left
      refine ⟨size.toNat, ?_, ?_, ?_, h⟩ <;> (unfold fitS at h; split at h <;> omega)
    · exact .inr h
  rcases hsp with ⟨m, rfl, hm1, hm2, hfit⟩ | hfit
  · have hp : putS n (m : Int) = (bigK n m m, 0) := by unfold putS; rw [if_pos hfit, Int.toNat_natCast]
    have htk := take_big n (m : Int) hfit
    rw [Int.toNat_natCast] at htk
    have q1 := fun W => P.octet_Big.calls 1 n (m : Int) (putS n (m : Int)).1 (putS n (m : Int)).2 W (big_f n (m : Int) HN.out)
    have q2 := fun W => little_walk n (m : Int) W HN.out
    have q3 := fun A' c' (hc' : (bigK n m m).length ≤ c') W h => P.octet_BigOf.calls 10 A' c' (bigK n m m) (takeS (bigK n m m)).1 (takeS (bigK n m m)).2 W h hc' (bigof_f (bigK n m m) (bigK_bytes n m))
    have hrb : Bytes (bigK n m m).reverse := fun x hx => bigK_bytes n m x (List.mem_reverse.1 hx)
    have q4 := fun A' c' (hc' : (bigK n m m).reverse.length ≤ c') W h => P.octet_LittleOf.calls 10 A' c' (bigK n m m).reverse (takeS (bigK n m m).reverse.reverse).1 (takeS (bigK n m m).reverse.reverse).2 W h hc' (littleof_f (bigK n m m).reverse hrb)
    rw [List.reverse_reverse] at q4
    rw [htk] at q3 q4
    rw [hp] at q1 q2
    have hxe : (bigK n m m).length = m := bigK_len n m m
    have hze : (bigK n m m).reverse.length = m := by rw [List.length_reverse]; exact hxe
    rw [hxe] at q3
    rw [hze] at q4
    simp only at q1 q2 q3 q4
    generalize hK : bigK n m m = K at *
    generalize hR : K.reverse = R at *
    have HXE := Aside0.mk hxe
    have HZE := Aside0.mk hze
    have k1 := Lib.hid q1
    have k2 := Lib.hid q2
    have k3 := Lib.hid q3
    have k4 := Lib.hid q4
    clear q1 q2 q3 q4 hrb hp htk hfit hxe hze hK hR
    have d1 : (e1 = 0 ∧ T4 = s) ∨ ((e1 == 0) = false ∧ e1 ≠ 0) := by
      by_cases h : e1 = 0
      · exact .inl ⟨h, r11 h⟩
      · exact .inr ⟨beq_eq_false_iff_ne.2 h, h⟩
    have d2 : (e2 = 0 ∧ T5 = s) ∨ ((e2 == 0) = false ∧ e2 ≠ 0) := by
      by_cases h : e2 = 0
      · exact .inl ⟨h, r13 h⟩
      · exact .inr ⟨beq_eq_false_iff_ne.2 h, h⟩
    have d3 : (e3 = 0 ∧ T6 = s) ∨ ((e3 == 0) = false ∧ e3 ≠ 0) := by
      by_cases h : e3 = 0
      · exact .inl ⟨h, r15 h⟩
      · exact .inr ⟨beq_eq_false_iff_ne.2 h, h⟩
    clear r11 r13 r15
    rcases d1 with ⟨rfl, rfl⟩ | ⟨t1, t1'⟩ <;> rcases d2 with ⟨rfl, rfl⟩ | ⟨t2, t2'⟩ <;> rcases d3 with ⟨rfl, rfl⟩ | ⟨t3, t3'⟩
    all_goals
      go_enter Tryd.func10, Tryd.ntmps10
      go_wp2_with (first
        | (go_at_call 13
           first
           | (with_reducible refine (CL.out _ (Utf8Tabs_below HT.out HB.out)).mono ?_
              rintro e v ⟨rfl, hb⟩
              replace HB := Aside0.mk (HB.out.trans (hb.mono HB.out.size))
              replace HBV := Aside0.mk (HBV.out.trans (hb.mono HBV.out.size))
              clear hb))
        | (go_at_call 28
           with_reducible refine (k1.out _).mono ?_
           rintro e v ⟨u, rfl, hr, hb⟩
           obtain ⟨Ax, cx, rfl, hlx, hCx⟩ := Kd.R_reads hr
           rw [HXE.out] at hlx hCx ⊢
           have HX := Aside0.mk hCx
           have HXL := Aside0.mk hlx
           replace HB := Aside0.mk (HB.out.trans (hb.mono HB.out.size))
           replace HBV := Aside0.mk (HBV.out.trans (hb.mono HBV.out.size))
           clear hb hr hlx hCx)
        | (go_at_call 29
           with_reducible refine (k2.out _).mono ?_
           rintro e v ⟨u, rfl, hr, hb⟩
           obtain ⟨Az, cz, rfl, hlz, hCz⟩ := Kd.R_reads hr
           rw [HZE.out] at hlz hCz ⊢
           have HZ := Aside0.mk hCz
           have HZL := Aside0.mk hlz
           replace HB := Aside0.mk (HB.out.trans (hb.mono HB.out.size))
           replace HBV := Aside0.mk (HBV.out.trans (hb.mono HBV.out.size))
           clear hb hr hlz hCz)
        | (go_at_call 31
           with_reducible refine (k3.out Ax cx HXL.out _ HX.out).mono ?_
           rintro e v ⟨rfl, hd⟩
           have hb := hd.below
           replace HB := Aside0.mk (HB.out.trans (hb.mono HB.out.size))
           replace HBV := Aside0.mk (HBV.out.trans (hb.mono HBV.out.size))
           clear hb hd)
        | (go_at_call 32
           refine (k4.out Az cz HZL.out _ HZ.out).mono ?_
           rintro e v ⟨rfl, hd⟩
           have hb := hd.below
           replace HB := Aside0.mk (HB.out.trans (hb.mono HB.out.size))
           replace HBV := Aside0.mk (HBV.out.trans (hb.mono HBV.out.size))
           clear hb hd)
        | (go_at_call 14
           first
           | (with_reducible refine (h11.out AX cX HLX.out _ HXX.out).mono ?_
              rintro e v ⟨rfl, hb⟩
              replace HB := Aside0.mk (HB.out.trans (hb.mono HB.out.size))
              replace HBV := Aside0.mk (HBV.out.trans (hb.mono HBV.out.size))
              clear hb)
           | (refine (h1.out _ (Kd.C_below HC.out HB.out)).mono ?_
              rintro e v ⟨rfl, hb⟩
              replace HB := Aside0.mk (HB.out.trans (hb.mono HB.out.size))
              replace HBV := Aside0.mk (HBV.out.trans (hb.mono HBV.out.size))
              clear hb))
        | (go_at_call 11
           first
           | (with_reducible refine (h2.out _).mono ?_
              rintro e v ⟨u, rfl, hr, hb⟩
              obtain ⟨AU, cU, rfl, hlu, hCu⟩ := Kd.R_reads hr
              have HU := Aside0.mk hCu
              have HLU := Aside0.mk hlu
              replace HB := Aside0.mk (HB.out.trans (hb.mono HB.out.size))
              replace HBV := Aside0.mk (Below.refl v.heap.size v)
              clear hb hr hlu hCu)
           | (with_reducible refine (h10.out _).mono ?_
              rintro e v ⟨u, rfl, hr, hb⟩
              obtain ⟨AX, cX, rfl, hlu, hCu⟩ := Kd.R_reads hr
              have HXX := Aside0.mk hCu
              have HLX := Aside0.mk hlu
              replace HB := Aside0.mk (HB.out.trans (hb.mono HB.out.size))
              replace HBV := Aside0.mk (HBV.out.trans (hb.mono HBV.out.size))
              clear hb hr hlu hCu))
        | (go_at_call 17
           refine (h7.out _ (Kd.C_below HC.out HB.out)).mono ?_
           rintro e v ⟨u, rfl, hr, hb⟩
           obtain ⟨AB, cB, rfl, hlu, hCu⟩ := Kd.R_reads hr
           have HBB := Aside0.mk hCu
           have HLB := Aside0.mk hlu
           replace HB := Aside0.mk (HB.out.trans (hb.mono HB.out.size))
           replace HBV := Aside0.mk (HBV.out.trans (hb.mono HBV.out.size))
           clear hb hr hlu hCu)
        | (go_at_call 19
           with_reducible refine (h8.out AB cB HLB.out _ HBB.out).mono ?_
           rintro e v ⟨u, rfl, hr, hb⟩
           obtain ⟨AF, cF, rfl, hlu, hCu⟩ := Kd.R_reads hr
           have HFF := Aside0.mk hCu
           have HLF := Aside0.mk hlu
           replace HB := Aside0.mk (HB.out.trans (hb.mono HB.out.size))
           replace HBV := Aside0.mk (HBV.out.trans (hb.mono HBV.out.size))
           clear hb hr hlu hCu)
        | (go_at_call 16
           first
           | (refine (h9.out AF cF _ HFF.out HLF.out (Kd.C_below HC.out HB.out)).mono ?_
              rintro e v ⟨rfl, hd⟩
              have hb := hd.below
              replace HB := Aside0.mk (HB.out.trans (hb.mono HB.out.size))
              replace HBV := Aside0.mk (HBV.out.trans (hb.mono HBV.out.size))
              clear hb hd)
           | (refine (h9.out AU cU _ (Kd.C_below HU.out HBV.out) HLU.out (Kd.C_below HC.out HB.out)).mono ?_
              rintro e v ⟨rfl, hd⟩
              have hb := hd.below
              replace HB := Aside0.mk (HB.out.trans (hb.mono HB.out.size))
              replace HBV := Aside0.mk (HBV.out.trans (hb.mono HBV.out.size))
              clear hb hd))
        | (go_at_call 22
           first
           | (with_reducible refine (h13.out _ (Utf8Tabs_below HT.out HB.out)).mono ?_
              rintro e v ⟨rfl, hb⟩
              replace HB := Aside0.mk (HB.out.trans (hb.mono HB.out.size))
              replace HBV := Aside0.mk (HBV.out.trans (hb.mono HBV.out.size))
              clear hb)
           | (with_reducible refine (h3.out _ (Utf8Tabs_below HT.out HB.out)).mono ?_
              rintro e v ⟨rfl, hb⟩
              replace HB := Aside0.mk (HB.out.trans (hb.mono HB.out.size))
              replace HBV := Aside0.mk (HBV.out.trans (hb.mono HBV.out.size))
              clear hb))
        | (go_at_call 45
           first
           | (with_reducible refine (h4.out _ (Utf8Tabs_below HT.out HB.out)).mono ?_
              rintro e v ⟨rfl, hb⟩
              replace HB := Aside0.mk (HB.out.trans (hb.mono HB.out.size))
              replace HBV := Aside0.mk (HBV.out.trans (hb.mono HBV.out.size))
              clear hb)
           | (with_reducible refine (h12.out _ (Utf8Tabs_below HT.out HB.out)).mono ?_
              rintro e v ⟨rfl, hb⟩
              replace HB := Aside0.mk (HB.out.trans (hb.mono HB.out.size))
              replace HBV := Aside0.mk (HBV.out.trans (hb.mono HBV.out.size))
              clear hb))
        | (go_at_call 26
           first
           | (with_reducible refine (h15.out _).mono ?_
              rintro e v ⟨rfl, hb⟩
              replace HB := Aside0.mk (HB.out.trans (hb.mono HB.out.size))
              replace HBV := Aside0.mk (HBV.out.trans (hb.mono HBV.out.size))
              clear hb)
           | (with_reducible refine (h5.out _).mono ?_
              rintro e v ⟨rfl, hb⟩
              replace HB := Aside0.mk (HB.out.trans (hb.mono HB.out.size))
              replace HBV := Aside0.mk (HBV.out.trans (hb.mono HBV.out.size))
              clear hb))
        | (go_at_call 24
           first
           | (with_reducible refine (h6.out _).mono ?_
              rintro e v ⟨rfl, hb⟩
              replace HB := Aside0.mk (HB.out.trans (hb.mono HB.out.size))
              replace HBV := Aside0.mk (HBV.out.trans (hb.mono HBV.out.size))
              clear hb)
           | (with_reducible refine (h14.out _).mono ?_
              rintro e v ⟨rfl, hb⟩
              replace HB := Aside0.mk (HB.out.trans (hb.mono HB.out.size))
              replace HBV := Aside0.mk (HBV.out.trans (hb.mono HBV.out.size))
              clear hb))
        | fail)
      go_ret
      exact ⟨rfl, HB.out⟩
  · have hp : (putS n size).2 ≠ 0 := by unfold putS; rw [if_neg hfit]; exact hfit
    have q1 := fun W => P.octet_Big.calls 1 n size (putS n size).1 (putS n size).2 W (big_f n size HN.out)
    generalize (putS n size).2 = e9 at *
    generalize (putS n size).1 = K at *
    have tp : (e9 == 0) = false := beq_eq_false_iff_ne.2 hp
    have k1 := Lib.hid q1
    clear q1 hfit
    have d1 : (e1 = 0 ∧ T4 = s) ∨ ((e1 == 0) = false ∧ e1 ≠ 0) := by
      by_cases h : e1 = 0
      · exact .inl ⟨h, r11 h⟩
      · exact .inr ⟨beq_eq_false_iff_ne.2 h, h⟩
    have d2 : (e2 = 0 ∧ T5 = s) ∨ ((e2 == 0) = false ∧ e2 ≠ 0) := by
      by_cases h : e2 = 0
      · exact .inl ⟨h, r13 h⟩
      · exact .inr ⟨beq_eq_false_iff_ne.2 h, h⟩
    have d3 : (e3 = 0 ∧ T6 = s) ∨ ((e3 == 0) = false ∧ e3 ≠ 0) := by
      by_cases h : e3 = 0
      · exact .inl ⟨h, r15 h⟩
      · exact .inr ⟨beq_eq_false_iff_ne.2 h, h⟩
    clear r11 r13 r15
    rcases d1 with ⟨rfl, rfl⟩ | ⟨t1, t1'⟩ <;> rcases d2 with ⟨rfl, rfl⟩ | ⟨t2, t2'⟩ <;> rcases d3 with ⟨rfl, rfl⟩ | ⟨t3, t3'⟩
    all_goals
      go_enter Tryd.func10, Tryd.ntmps10
      go_wp2_with (first
        | (go_at_call 13
           first
           | (with_reducible refine (CL.out _ (Utf8Tabs_below HT.out HB.out)).mono ?_
              rintro e v ⟨rfl, hb⟩
              replace HB := Aside0.mk (HB.out.trans (hb.mono HB.out.size))
              replace HBV := Aside0.mk (HBV.out.trans (hb.mono HBV.out.size))
              clear hb))
        | (go_at_call 28
           with_reducible refine (k1.out _).mono ?_
           rintro e v ⟨u, rfl, hr, hb⟩
           obtain ⟨Ax, cx, rfl, hlx, hCx⟩ := Kd.R_reads hr
           have HX := Aside0.mk hCx
           have HXL := Aside0.mk hlx
           replace HB := Aside0.mk (HB.out.trans (hb.mono HB.out.size))
           replace HBV := Aside0.mk (HBV.out.trans (hb.mono HBV.out.size))
           clear hb hr hlx hCx)
        | (go_at_call 29
           with_reducible refine (k2.out _).mono ?_
           rintro e v ⟨u, rfl, hr, hb⟩
           obtain ⟨Az, cz, rfl, hlz, hCz⟩ := Kd.R_reads hr
           have HZ := Aside0.mk hCz
           have HZL := Aside0.mk hlz
           replace HB := Aside0.mk (HB.out.trans (hb.mono HB.out.size))
           replace HBV := Aside0.mk (HBV.out.trans (hb.mono HBV.out.size))
           clear hb hr hlz hCz)
        | (go_at_call 31
           with_reducible refine (k3.out Ax cx HXL.out _ HX.out).mono ?_
           rintro e v ⟨rfl, hd⟩
           have hb := hd.below
           replace HB := Aside0.mk (HB.out.trans (hb.mono HB.out.size))
           replace HBV := Aside0.mk (HBV.out.trans (hb.mono HBV.out.size))
           clear hb hd)
        | (go_at_call 32
           refine (k4.out Az cz HZL.out _ HZ.out).mono ?_
           rintro e v ⟨rfl, hd⟩
           have hb := hd.below
           replace HB := Aside0.mk (HB.out.trans (hb.mono HB.out.size))
           replace HBV := Aside0.mk (HBV.out.trans (hb.mono HBV.out.size))
           clear hb hd)
        | (go_at_call 14
           first
           | (with_reducible refine (h11.out AX cX HLX.out _ HXX.out).mono ?_
              rintro e v ⟨rfl, hb⟩
              replace HB := Aside0.mk (HB.out.trans (hb.mono HB.out.size))
              replace HBV := Aside0.mk (HBV.out.trans (hb.mono HBV.out.size))
              clear hb)
           | (refine (h1.out _ (Kd.C_below HC.out HB.out)).mono ?_
              rintro e v ⟨rfl, hb⟩
              replace HB := Aside0.mk (HB.out.trans (hb.mono HB.out.size))
              replace HBV := Aside0.mk (HBV.out.trans (hb.mono HBV.out.size))
              clear hb))
        | (go_at_call 11
           first
           | (with_reducible refine (h2.out _).mono ?_
              rintro e v ⟨u, rfl, hr, hb⟩
              obtain ⟨AU, cU, rfl, hlu, hCu⟩ := Kd.R_reads hr
              have HU := Aside0.mk hCu
              have HLU := Aside0.mk hlu
              replace HB := Aside0.mk (HB.out.trans (hb.mono HB.out.size))
              replace HBV := Aside0.mk (Below.refl v.heap.size v)
              clear hb hr hlu hCu)
           | (with_reducible refine (h10.out _).mono ?_
              rintro e v ⟨u, rfl, hr, hb⟩
              obtain ⟨AX, cX, rfl, hlu, hCu⟩ := Kd.R_reads hr
              have HXX := Aside0.mk hCu
              have HLX := Aside0.mk hlu
              replace HB := Aside0.mk (HB.out.trans (hb.mono HB.out.size))
              replace HBV := Aside0.mk (HBV.out.trans (hb.mono HBV.out.size))
              clear hb hr hlu hCu))
        | (go_at_call 17
           refine (h7.out _ (Kd.C_below HC.out HB.out)).mono ?_
           rintro e v ⟨u, rfl, hr, hb⟩
           obtain ⟨AB, cB, rfl, hlu, hCu⟩ := Kd.R_reads hr
           have HBB := Aside0.mk hCu
           have HLB := Aside0.mk hlu
           replace HB := Aside0.mk (HB.out.trans (hb.mono HB.out.size))
           replace HBV := Aside0.mk (HBV.out.trans (hb.mono HBV.out.size))
           clear hb hr hlu hCu)
        | (go_at_call 19
           with_reducible refine (h8.out AB cB HLB.out _ HBB.out).mono ?_
           rintro e v ⟨u, rfl, hr, hb⟩
           obtain ⟨AF, cF, rfl, hlu, hCu⟩ := Kd.R_reads hr
           have HFF := Aside0.mk hCu
           have HLF := Aside0.mk hlu
           replace HB := Aside0.mk (HB.out.trans (hb.mono HB.out.size))
           replace HBV := Aside0.mk (HBV.out.trans (hb.mono HBV.out.size))
           clear hb hr hlu hCu)
        | (go_at_call 16
           first
           | (refine (h9.out AF cF _ HFF.out HLF.out (Kd.C_below HC.out HB.out)).mono ?_
              rintro e v ⟨rfl, hd⟩
              have hb := hd.below
              replace HB := Aside0.mk (HB.out.trans (hb.mono HB.out.size))
              replace HBV := Aside0.mk (HBV.out.trans (hb.mono HBV.out.size))
              clear hb hd)
           | (refine (h9.out AU cU _ (Kd.C_below HU.out HBV.out) HLU.out (Kd.C_below HC.out HB.out)).mono ?_
              rintro e v ⟨rfl, hd⟩
              have hb := hd.below
              replace HB := Aside0.mk (HB.out.trans (hb.mono HB.out.size))
              replace HBV := Aside0.mk (HBV.out.trans (hb.mono HBV.out.size))
              clear hb hd))
        | (go_at_call 22
           first
           | (with_reducible refine (h13.out _ (Utf8Tabs_below HT.out HB.out)).mono ?_
              rintro e v ⟨rfl, hb⟩
              replace HB := Aside0.mk (HB.out.trans (hb.mono HB.out.size))
              replace HBV := Aside0.mk (HBV.out.trans (hb.mono HBV.out.size))
              clear hb)
           | (with_reducible refine (h3.out _ (Utf8Tabs_below HT.out HB.out)).mono ?_
              rintro e v ⟨rfl, hb⟩
              replace HB := Aside0.mk (HB.out.trans (hb.mono HB.out.size))
              replace HBV := Aside0.mk (HBV.out.trans (hb.mono HBV.out.size))
              clear hb))
        | (go_at_call 45
           first
           | (with_reducible refine (h4.out _ (Utf8Tabs_below HT.out HB.out)).mono ?_
              rintro e v ⟨rfl, hb⟩
              replace HB := Aside0.mk (HB.out.trans (hb.mono HB.out.size))
              replace HBV := Aside0.mk (HBV.out.trans (hb.mono HBV.out.size))
              clear hb)
           | (with_reducible refine (h12.out _ (Utf8Tabs_below HT.out HB.out)).mono ?_
              rintro e v ⟨rfl, hb⟩
              replace HB := Aside0.mk (HB.out.trans (hb.mono HB.out.size))
              replace HBV := Aside0.mk (HBV.out.trans (hb.mono HBV.out.size))
              clear hb))
        | (go_at_call 26
           first
           | (with_reducible refine (h15.out _).mono ?_
              rintro e v ⟨rfl, hb⟩
              replace HB := Aside0.mk (HB.out.trans (hb.mono HB.out.size))
              replace HBV := Aside0.mk (HBV.out.trans (hb.mono HBV.out.size))
              clear hb)
           | (with_reducible refine (h5.out _).mono ?_
              rintro e v ⟨rfl, hb⟩
              replace HB := Aside0.mk (HB.out.trans (hb.mono HB.out.size))
              replace HBV := Aside0.mk (HBV.out.trans (hb.mono HBV.out.size))
              clear hb))
        | (go_at_call 24
           first
           | (with_reducible refine (h6.out _).mono ?_
              rintro e v ⟨rfl, hb⟩
              replace HB := Aside0.mk (HB.out.trans (hb.mono HB.out.size))
              replace HBV := Aside0.mk (HBV.out.trans (hb.mono HBV.out.size))
              clear hb)
           | (with_reducible refine (h14.out _).mono ?_
              rintro e v ⟨rfl, hb⟩
              replace HB := Aside0.mk (HB.out.trans (hb.mono HB.out.size))
              replace HBV := Aside0.mk (HBV.out.trans (hb.mono HBV.out.size))
              clear hb))
        | fail)
      go_ret
      exact ⟨rfl, HB.out⟩
end Go.Proofs.YtjjppeodkmfjgaaDoor.Ext
