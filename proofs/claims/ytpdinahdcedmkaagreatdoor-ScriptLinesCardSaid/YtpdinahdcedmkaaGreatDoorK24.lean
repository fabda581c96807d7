import Derived.Test.YtpdinahdcedmkaaGreatDoorK23
import Derived.Test.YtpdinahdcedmkaaGreatDoorK10
import Derived.Test.YtpdinahdcedmkaaGreatDoorK5
import Derived.Test.YtpdinahdcedmkaaGreatDoorK18
import Derived.Test.YtpdinahdcedmkaaGreatDoorK19
set_option linter.unusedVariables false
set_option linter.unusedSimpArgs false
set_option maxHeartbeats 16000000
set_option maxRecDepth 100000
/- liveryref01.Unquote: what octet.Unquote answers. -/
namespace Go.Proofs.YtpdinahdcedmkaaGreatDoor.Ext
open Go.RowKit YtpdinahdcedmkaaGreatDoorW.PrintWords YtpdinahdcedmkaaGreatDoorW.PrintLast YtpdinahdcedmkaaGreatDoorW.PrintMore
theorem unq_or (q : ByteArray) : (∃ s, quoteS s = q /\ unqS q = (s, 0)) \/ ((∀ s, quoteS s ≠ q) /\ unqS q = (ByteArray.empty, 11)) := by
 by_cases h : ∃ s, quoteS s = q
 · obtain ⟨s, rfl⟩ := h
   exact .inl ⟨s, rfl, unq_quote s⟩
 · refine .inr ⟨fun s hs => h ⟨s, hs⟩, ?_⟩
   unfold unqS
   split
   · rfl
   · split
     · rfl
     · split
       · rename_i l _ h2
         exact absurd ⟨_, h2⟩ h
       · rfl
theorem unq_inner (s q : ByteArray) (h : quoteS s = q) : ∃ l, unqL q.size (q.extract 1 (q.size - 1)) [] = some l /\ strOfNums l = s := by
 have h1 := unq_quote s
 rw [h] at h1
 unfold unqS at h1
 split at h1
 · exact absurd (congrArg Prod.snd h1) (show ¬ (11 : Int) = 0 by decide)
 · split at h1
   · exact absurd (congrArg Prod.snd h1) (show ¬ (11 : Int) = 0 by decide)
   · rename_i l hl
     split at h1
     · exact ⟨l, hl, congrArg Prod.fst h1⟩
     · exact absurd (congrArg Prod.snd h1) (show ¬ (11 : Int) = 0 by decide)
def UInv (q out : ByteArray) (i : Nat) : Prop := ∀ l, unqL q.size (q.extract 1 (q.size - 1)) [] = some l -> ∃ F acc, unqL F (q.extract i (q.size - 1)) acc = some l /\ q.size - 1 - i <= F /\ out = strOfNums acc
theorem uinv_start (q : ByteArray) : UInv q ⟨#[]⟩ 1 := fun l h => ⟨q.size, [], h, by omega, rfl⟩
theorem uinv_end {q out : ByteArray} {i : Nat} (h : UInv q out i) (hi : ¬ i < q.size - 1) : (quoteS out = q /\ unqS q = (out, 0)) \/ (quoteS out ≠ q /\ unqS q = (ByteArray.empty, 11)) := by
 by_cases hq : quoteS out = q
 · refine .inl ⟨hq, ?_⟩
   rw [<- hq]
   exact unq_quote out
 · refine .inr ⟨hq, ?_⟩
   rcases unq_or q with ⟨s, hs, _⟩ | ⟨_, h2⟩
   · obtain ⟨l, h1, h2⟩ := unq_inner s q hs
     obtain ⟨F, acc, h3, h4, rfl⟩ := h l h1
     have hz : (q.extract i (q.size - 1)).size = 0 := by rw [ByteArray.size_extract]; omega
     have h5 : unqL F (q.extract i (q.size - 1)) acc = some acc := by
      cases F with
      | zero => rfl
      | succ F => rw [unqL, if_pos hz]
     rw [h5] at h3
     cases h3
     rw [h2] at hq
     exact absurd hs hq
   · exact h2
theorem unq_bad {q : ByteArray} (h : ∀ l, unqL q.size (q.extract 1 (q.size - 1)) [] ≠ some l) : unqS q = (ByteArray.empty, 11) := by
 rcases unq_or q with ⟨s, hs, _⟩ | ⟨_, h2⟩
 · obtain ⟨l, h1, _⟩ := unq_inner s q hs
   exact absurd h1 (h l)
 · exact h2
theorem bt_ext (q : ByteArray) (i e j : Nat) (h : i + j < e) (he : e <= q.size) : bt (q.extract i e) (j : Int) = bt q ((i + j : Nat) : Int) := by
 have hz : (q.extract i e).size = e - i := by rw [ByteArray.size_extract]; omega
 rw [bt_nat _ j (by omega), bt_nat q (i + j) (by omega), extract_list]
 congr 2
 rw [List.getD_eq_getElem?_getD, List.getD_eq_getElem?_getD, List.getElem?_drop, List.getElem?_take, if_pos (by omega)]
theorem ext_one (q : ByteArray) (i : Nat) (h : i < q.size) : q.extract i (i + 1) = strOfNums [bt q (i : Int)] := by
 have hl : q.data.toList.length = q.size := by rw [Array.length_toList]; rfl
 apply ByteArray.ext
 rw [<- Array.toList_inj, extract_list, strOfNums_data, bt_nat q i h]
 rw [List.drop_take, List.drop_eq_getElem_cons (by omega), show i + 1 - i = 1 by omega, List.take_succ_cons, List.take_zero, List.getD_eq_getElem?_getD, List.getElem?_eq_getElem (by omega)]
 simp
theorem ext_ext (q : ByteArray) (i e n : Nat) (h : i + n <= e) (he : e <= q.size) : (q.extract i e).extract n (q.extract i e).size = q.extract (i + n) e := by
 have hz : (q.extract i e).size = e - i := by rw [ByteArray.size_extract]; omega
 rw [hz, ByteArray.extract_extract]
 congr 1
 omega
theorem u_step {q out : ByteArray} {i : Nat} (h : UInv q out i) (hi : i < q.size - 1) : ∀ l, unqL q.size (q.extract 1 (q.size - 1)) [] = some l -> ∃ F acc, (takenS (q.extract i (q.size - 1))).2.2 = true /\ unqL F ((q.extract i (q.size - 1)).extract (takenS (q.extract i (q.size - 1))).2.1 (q.extract i (q.size - 1)).size) (acc ++ (takenS (q.extract i (q.size - 1))).1) = some l /\ q.size - 1 - i <= F + 1 /\ out = strOfNums acc := by
 intro l hl
 obtain ⟨F, acc, h1, h2, h3⟩ := h l hl
 have hz : (q.extract i (q.size - 1)).size = q.size - 1 - i := by rw [ByteArray.size_extract]; omega
 obtain ⟨F, rfl⟩ : ∃ k, F = k + 1 := ⟨F - 1, by omega⟩
 rw [unqL, if_neg (by omega)] at h1
 by_cases hok : (takenS (q.extract i (q.size - 1))).2.2 = true
 · rw [if_pos hok] at h1
   exact ⟨F, acc, hok, h1, by omega, h3⟩
 · rw [if_neg hok] at h1; cases h1
theorem strApp (a b : List Int) : strOfNums (a ++ b) = strOfNums a ++ strOfNums b := strOfNums_append a b
theorem u_one {q out : ByteArray} {i : Nat} (h : UInv q out i) (hi : i < q.size - 1) (h9 : bt q (i : Int) ≠ 92) : UInv q (out ++ q.extract i (i + 1)) (i + 1) := by
 intro l hl
 obtain ⟨F, acc, h1, h2, h3, h4⟩ := u_step h hi l hl
 have b0 := bt_ext q i (q.size - 1) 0 (by omega) (by omega)
 rw [Nat.add_zero] at b0
 have ht : takenS (q.extract i (q.size - 1)) = ([bt q (i : Int)], 1, true) := by
  unfold takenS
  rw [show (0 : Int) = ((0 : Nat) : Int) from rfl, b0, if_pos h9]
 rw [ht] at h2
 simp only at h2
 rw [ext_ext q i _ 1 (by omega) (by omega)] at h2
 exact ⟨F, _, h2, by omega, by rw [h4, strApp, ext_one q i (by omega)]⟩
theorem u_two {q out : ByteArray} {i : Nat} (h : UInv q out i) (hi : i + 1 < q.size - 1) (h9 : bt q (i : Int) = 92) (h8 : bt q ((i + 1 : Nat) : Int) ≠ 120) : UInv q (out ++ q.extract (i + 1) (i + 2)) (i + 2) := by
 intro l hl
 obtain ⟨F, acc, h1, h2, h3, h4⟩ := u_step h (by omega) l hl
 have hz : (q.extract i (q.size - 1)).size = q.size - 1 - i := by rw [ByteArray.size_extract]; omega
 have b0 := bt_ext q i (q.size - 1) 0 (by omega) (by omega)
 rw [Nat.add_zero] at b0
 have b1 := bt_ext q i (q.size - 1) 1 (by omega) (by omega)
 have ht : takenS (q.extract i (q.size - 1)) = ([bt q ((i + 1 : Nat) : Int)], 2, true) := by
  unfold takenS
  rw [show (0 : Int) = ((0 : Nat) : Int) from rfl, show (1 : Int) = ((1 : Nat) : Int) from rfl, b0, b1, if_neg (by simp [h9]), if_neg (by omega), if_pos h8]
 rw [ht] at h2
 simp only at h2
 rw [ext_ext q i _ 2 (by omega) (by omega)] at h2
 exact ⟨F, _, h2, by omega, by rw [h4, strApp, ext_one q (i + 1) (by omega)]⟩
theorem u_lone {q out out' : ByteArray} {i i' : Nat} (h : UInv q out i) (hi : i < q.size - 1) (h9 : bt q (i : Int) = 92) (hn : ¬ i + 1 < q.size - 1) : UInv q out' i' := by
 intro l hl
 obtain ⟨F, acc, h1, h2, h3, h4⟩ := u_step h hi l hl
 have hz : (q.extract i (q.size - 1)).size = q.size - 1 - i := by rw [ByteArray.size_extract]; omega
 have b0 := bt_ext q i (q.size - 1) 0 (by omega) (by omega)
 rw [Nat.add_zero] at b0
 unfold takenS at h1
 rw [show (0 : Int) = ((0 : Nat) : Int) from rfl, b0, if_neg (by simp [h9]), if_pos (by omega)] at h1
 cases h1
theorem u_hex {q out : ByteArray} {i : Nat} (h : UInv q out i) (hi : i + 1 < q.size - 1) (h9 : bt q (i : Int) = 92) (h8 : bt q ((i + 1 : Nat) : Int) = 120) :
 (q.size - 1 - i < 4 -> unqS q = (ByteArray.empty, 11)) /\ (¬ q.size - 1 - i < 4 -> (unhexS (q.extract (i + 2) (i + 4))).2.2 ≠ 0 -> unqS q = (ByteArray.empty, 11)) /\ (¬ q.size - 1 - i < 4 -> (unhexS (q.extract (i + 2) (i + 4))).2.2 = 0 -> UInv q (out ++ strOfNums (unhexS (q.extract (i + 2) (i + 4))).1) (i + 4)) := by
 have hz : (q.extract i (q.size - 1)).size = q.size - 1 - i := by rw [ByteArray.size_extract]; omega
 have b0 := bt_ext q i (q.size - 1) 0 (by omega) (by omega)
 rw [Nat.add_zero] at b0
 have b1 := bt_ext q i (q.size - 1) 1 (by omega) (by omega)
 have ht : takenS (q.extract i (q.size - 1)) = if q.size - 1 - i < 4 then ([], 0, false) else ((unhexS ((q.extract i (q.size - 1)).extract 2 4)).1, 4, (unhexS ((q.extract i (q.size - 1)).extract 2 4)).2.2 == 0) := by
  unfold takenS
  rw [show (0 : Int) = ((0 : Nat) : Int) from rfl, show (1 : Int) = ((1 : Nat) : Int) from rfl, b0, b1, if_neg (by simp [h9]), if_neg (by omega), if_neg (fun hh => hh h8), hz]
 refine ⟨fun hs => unq_bad (fun l hl => ?_), fun hs he => unq_bad (fun l hl => ?_), fun hs he l hl => ?_⟩
 · obtain ⟨F, acc, h1, h2, h3, h4⟩ := u_step h (by omega) l hl
   rw [ht, if_pos hs] at h1
   cases h1
 · obtain ⟨F, acc, h1, h2, h3, h4⟩ := u_step h (by omega) l hl
   have e2 : (q.extract i (q.size - 1)).extract 2 4 = q.extract (i + 2) (i + 4) := by rw [ByteArray.extract_extract]; congr 1; omega
   rw [ht, if_neg hs, e2] at h1
   exact he (by simpa using h1)
 · obtain ⟨F, acc, h1, h2, h3, h4⟩ := u_step h (by omega) l hl
   have e2 : (q.extract i (q.size - 1)).extract 2 4 = q.extract (i + 2) (i + 4) := by rw [ByteArray.extract_extract]; congr 1; omega
   rw [ht, if_neg hs, e2] at h2
   simp only at h2
   rw [ext_ext q i _ 4 (by omega) (by omega)] at h2
   exact ⟨F, _, h2, by omega, by rw [h4, strApp]⟩
theorem ext_test (q : ByteArray) (i : Nat) (h : i < q.size) (n : Nat) (hn : n < 256) : ((q.extract i (i + 1)).toList == [UInt8.ofNat n]) = decide (bt q (i : Int) = (n : Int)) := by
 rw [ByteArray.toList_eq, ext_one q i h, strOfNums_data, bt_nat q i h]
 simp only [List.map_cons, List.map_nil]
 rw [Bool.eq_iff_iff]
 simp only [beq_iff_eq, List.cons.injEq, and_true, decide_eq_true_eq]
 rw [byte_eq _ n hn]
 simp
theorem r_Unquote (q : ByteArray) (w : World) (hs : q.size <= 134217728) :
 Calls Tryz.prog 89 #[.string q] w fun e w' => e = .returned (.tuple #[.string (unqS q).1, .int .i64 (unqS q).2]) /\ Below w.heap.size w w' := by
 obtain ⟨U, hU⟩ : ∃ U, unqS q = U := ⟨_, rfl⟩
 by_cases hz : q.size < 2
 · have hU2 : unqS q = (ByteArray.empty, 11) := by unfold unqS; rw [if_pos hz]
   rw [hU2]
   have h1 : (q.size : Int) < 2 := by omega
   go_enter Tryz.func89, Tryz.ntmps89
   go_wp2
   go_ret2
   exact ⟨rfl, Below.refl _ _⟩
 · rw [hU]
   have h1 : ¬ (q.size : Int) < 2 := by omega
   have HU := Zz.mk hU
   clear hU
   go_enter Tryz.func89, Tryz.ntmps89
   go_wp2
   go_loopw [4, 5] (fun v4 v5 wr => ∃ (i : Nat) (out : ByteArray), v4 = .string out /\ v5 = .int .i64 i /\ 1 <= i /\ i + 1 <= q.size /\ out.size <= i /\ Zz (UInv q out i) /\ Zz (Below w.heap.size w wr)) (fun _ v5 _ => q.size - (intOf v5).toNat)
   case atStart => exact ⟨1, _, rfl, rfl, by omega, by omega, by decide, ⟨uinv_start q⟩, ⟨Below.refl _ _⟩⟩
   case round =>
    obtain ⟨i, out, rfl, rfl, hi1, hi2, ho, HI, HB⟩ := hrel
    by_cases hlt : i + 1 < q.size
    · have hl1 : (i : Int) < (q.size : Int) - 1 := by omega
      have t1 : ((q.extract i (i + 1)).toList == [92]) = decide (bt q (i : Int) = 92) := ext_test q i (by omega) 92 (by omega)
      have s1 := sl_both q (i : Int) ((i : Int) + 1) (by omega) (by omega) (by omega)
      rw [Int.toNat_natCast, show ((i : Int) + 1).toNat = i + 1 by omega] at s1
      have z1 : (q.extract i (i + 1)).size = 1 := by rw [ByteArray.size_extract]; omega
      by_cases h9 : bt q (i : Int) = 92
      · rw [decide_eq_true h9] at t1
        have tt : (q.extract i (i + 1)).toList = [92] := by simpa using t1
        clear t1
        by_cases hn : i + 1 < q.size - 1
        · have hl2 : (i : Int) + 1 < (q.size : Int) - 1 := by omega
          have t2 : ((q.extract (i + 1) (i + 2)).toList == [120]) = decide (bt q ((i + 1 : Nat) : Int) = 120) := ext_test q (i + 1) (by omega) 120 (by omega)
          have s2 := sl_both q ((i : Int) + 1) ((i : Int) + 1 + 1) (by omega) (by omega) (by omega)
          rw [show ((i : Int) + 1).toNat = i + 1 by omega, show ((i : Int) + 1 + 1).toNat = i + 2 by omega] at s2
          have z2 : (q.extract (i + 1) (i + 2)).size = 1 := by rw [ByteArray.size_extract]; omega
          by_cases h8 : bt q ((i + 1 : Nat) : Int) = 120
          · rw [decide_eq_true h8] at t2
            have t3 : (q.extract (i + 1) (i + 2)).toList = [120] := by simpa using t2
            obtain ⟨g1, g2, g3⟩ := u_hex HI.out hn h9 h8
            by_cases h4 : q.size - 1 - i < 4
            · have hl3 : (q.size : Int) - 1 - ((i : Int) + 1) < 3 := by omega
              have hu := g1 h4
              rw [HU.out] at hu
              subst hu
              clear HI g1 g2 g3 t2 h8 h9 HU
              generalize q.extract i (i + 1) = c at *
              generalize q.extract (i + 1) (i + 2) = d at *
              go_wp2
              go_ret2
              exact ⟨rfl, HB.out⟩
            · have hl3 : ¬ (q.size : Int) - 1 - ((i : Int) + 1) < 3 := by omega
              have s3 := sl_both q ((i : Int) + 1 + 1) ((i : Int) + 1 + 3) (by omega) (by omega) (by omega)
              rw [show ((i : Int) + 1 + 1).toNat = i + 2 by omega, show ((i : Int) + 1 + 3).toNat = i + 4 by omega] at s3
              have z3 : (q.extract (i + 2) (i + 4)).size = 2 := by rw [ByteArray.size_extract]; omega
              have cu := Lib.hid (fun W => refUnhex_walk (q.extract (i + 2) (i + 4)) W (by omega))
              by_cases he : (unhexS (q.extract (i + 2) (i + 4))).2.2 = 0
              · have HI2 := Zz.mk (g3 h4 he)
                have hb := hex_unhex (q.extract (i + 2) (i + 4)) he
                have hlen : (unhexS (q.extract (i + 2) (i + 4))).1.length <= 2 := by
                 have h7 := congrArg ByteArray.size hb
                 rw [strOfNums_size, hexS_len, z3] at h7
                 omega
                rw [he] at cu
                clear HI g1 g2 g3 t2 h8 h9 hb he
                generalize (unhexS (q.extract (i + 2) (i + 4))).1 = X at *
                generalize (unhexS (q.extract (i + 2) (i + 4))).2.1 = Y at *
                generalize q.extract i (i + 1) = c at *
                generalize q.extract (i + 1) (i + 2) = d at *
                generalize q.extract (i + 2) (i + 4) = e at *
                go_wp2_with fail
                refine (cu.out _).mono ?_
                rintro e1 v1 ⟨x1, rfl, hr1, hb1⟩
                have HB1 := Zz.mk (HB.out.trans (hb1.mono HB.out.size))
                have hcv := own_string (P := Tryz.prog) (src := 31) (dst := 9) Tryz.underlying31 Tryz.underlying5 Tryz.underlying9 (Kd.own_of_R hr1)
                have f1 : out.size + (strOfNums X).size <= 9223372036854775807 := by rw [strOfNums_size]; omega
                have FZ : (out ++ strOfNums X).size <= i + 4 := by rw [ByteArray.size_append, strOfNums_size]; omega
                clear hr1 hb1 cu
                generalize strOfNums X = S at *
                go_wp2
                go_roundw
                case rel => exact ⟨i + 4, _, rfl, by go_num, by omega, by omega, FZ, HI2, HB1⟩
                case measure => simp [intOf]; omega
              · have hu := g2 h4 he
                rw [HU.out] at hu
                subst hu
                clear HI g1 g2 g3 t2 h8 h9 HU
                generalize (unhexS (q.extract (i + 2) (i + 4))).1 = X at *
                generalize (unhexS (q.extract (i + 2) (i + 4))).2.1 = Y at *
                generalize (unhexS (q.extract (i + 2) (i + 4))).2.2 = Z at *
                generalize q.extract i (i + 1) = c at *
                generalize q.extract (i + 1) (i + 2) = d at *
                generalize q.extract (i + 2) (i + 4) = e at *
                go_wp2_with fail
                refine (cu.out _).mono ?_
                rintro e1 v1 ⟨x1, rfl, hr1, hb1⟩
                have HB1 := Zz.mk (HB.out.trans (hb1.mono HB.out.size))
                clear hr1 hb1 cu
                go_wp2
                go_ret2
                exact ⟨rfl, HB1.out⟩
          · rw [decide_eq_false h8] at t2
            have HI2 := Zz.mk (u_two HI.out hn h9 h8)
            have f1 : out.size + (q.extract (i + 1) (i + 2)).size <= 9223372036854775807 := by omega
            have FZ : (out ++ q.extract (i + 1) (i + 2)).size <= i + 2 := by rw [ByteArray.size_append]; omega
            clear HI h8 h9
            generalize q.extract i (i + 1) = c at *
            generalize q.extract (i + 1) (i + 2) = d at *
            go_wp2
            go_roundw
            case rel => exact ⟨i + 2, _, rfl, by go_num, by omega, by omega, FZ, HI2, HB⟩
            case measure => simp [intOf]; omega
        · have hl2 : ¬ (i : Int) + 1 < (q.size : Int) - 1 := by omega
          have HI2 := Zz.mk (u_lone (out' := out ++ q.extract i (i + 1)) (i' := i + 1) HI.out (by omega) h9 hn)
          have f1 : out.size + (q.extract i (i + 1)).size <= 9223372036854775807 := by omega
          have FZ : (out ++ q.extract i (i + 1)).size <= i + 1 := by rw [ByteArray.size_append]; omega
          clear HI h9
          generalize q.extract i (i + 1) = c at *
          go_wp2
          go_roundw
          case rel => exact ⟨i + 1, _, rfl, by go_num, by omega, by omega, FZ, HI2, HB⟩
          case measure => simp [intOf]; omega
      · rw [decide_eq_false h9] at t1
        have HI2 := Zz.mk (u_one HI.out (by omega) h9)
        have f1 : out.size + (q.extract i (i + 1)).size <= 9223372036854775807 := by omega
        have FZ : (out ++ q.extract i (i + 1)).size <= i + 1 := by rw [ByteArray.size_append]; omega
        clear HI h9
        generalize q.extract i (i + 1) = c at *
        go_wp2
        go_roundw
        case rel => exact ⟨i + 1, _, rfl, by go_num, by omega, by omega, FZ, HI2, HB⟩
        case measure => simp [intOf]; omega
    · have hl1 : ¬ (i : Int) < (q.size : Int) - 1 := by omega
      have cQ := Lib.hid (fun W => r_Quote out W (by omega))
      have hu := HU.out
      rcases uinv_end HI.out (by omega) with ⟨h5, h6⟩ | ⟨h5, h6⟩
      · rw [hu] at h6
        subst h6
        have te : (q.toList == q.toList) = true := beq_self_eq_true _
        rw [h5] at cQ
        clear HI HU hu h5
        go_wp2_with fail
        refine (cQ.out _).mono ?_
        rintro e1 v1 ⟨rfl, hb1⟩
        have HB1 := Zz.mk (HB.out.trans (hb1.mono HB.out.size))
        clear hb1 cQ
        go_wp2
        go_ret2
        exact ⟨rfl, HB1.out⟩
      · rw [hu] at h6
        subst h6
        have te := str_ne h5
        clear HI HU hu h5
        generalize quoteS out = Q at *
        go_wp2_with fail
        refine (cQ.out _).mono ?_
        rintro e1 v1 ⟨rfl, hb1⟩
        have HB1 := Zz.mk (HB.out.trans (hb1.mono HB.out.size))
        clear hb1 cQ
        go_wp2
        go_ret2
        exact ⟨rfl, HB1.out⟩
end Go.Proofs.YtpdinahdcedmkaaGreatDoor.Ext
namespace Go.Proofs.YtpdinahdcedmkaaGreatDoor.Ext
open Go.Proofs.YtpdinahdcedmkaaGreatDoor.P
open Go.RowKit YtpdinahdcedmkaaGreatDoorW.PrintWords YtpdinahdcedmkaaGreatDoorW.PrintLast YtpdinahdcedmkaaGreatDoorW.PrintMore Go.Proofs.YtpdinahdcedmkaaGreatDoor.Spec
structure ActV (b0 : Nat) (W : World) (x : Act) (u4 u11 u12 : Value) : Prop where
 h4 : Held k74 74 b0 W u4 x.f4
 h11 : Held (Kd.int .u8) 5 b0 W u11 x.f10
 h12 : Held Kd.bool 4 b0 W u12 x.f11
 nl : x.f11 = [] -> u12 = .slice none 0 0
theorem ActV.below {b0 : Nat} {W W' : World} {x : Act} {u4 u11 u12 : Value} (h : ActV b0 W x u4 u11 u12) (hb : Below W.heap.size W W') : ActV b0 W' x u4 u11 u12 := ⟨h.h4.below flat_lv hb, h.h11.below (flat_int _) hb, h.h12.below flat_bool hb, h.nl⟩
theorem ActV.ones {b0 : Nat} {W : World} {x : Act} {u4 u11 u12 : Value} (h : ActV b0 W x u4 u11 u12) : u4.oneCell' = true /\ u11.oneCell' = true /\ u12.oneCell' = true := by
 obtain ⟨A4, c4, rfl, _⟩ := h.h4.out
 obtain ⟨A11, c11, rfl, _⟩ := h.h11.out
 obtain ⟨A12, c12, rfl, _⟩ := h.h12.out
 exact ⟨rfl, rfl, rfl⟩
def ReadP (b0 : Nat) (w : World) (y : Act) (e : Ending) (w' : World) : Prop := ∃ u4 u11 u12, e = .returned (.agg #[.int .i64 y.f0, .int .i64 y.f1, .int .i64 y.f2, .int .i64 y.f3, u4, .int .u32 y.f5, .int .u32 y.f6, .int .u32 y.f7, .int .u64 y.f8.f0, .int .u64 y.f8.f1, .int .i64 y.f9, u11, u12]) /\ ActV b0 w' y u4 u11 u12 /\ Below w.heap.size w w'
theorem ActV.set {b0 : Nat} {W : World} {x : Act} {u4 u11 u12 : Value} (h : ActV b0 W x u4 u11 u12) {g : Nat} {cs : Array Value} (hx : W.heap[g]? = some (.cells cs 34)) (i : Nat) (u : Value) : ActV b0 (W.setCell ⟨g, i, none⟩ u) x u4 u11 u12 :=
 ⟨h.h4.step flat_lv (ExtQ.setCell_grown _ _ _ _) (fun k hk cells fr he => (by cases hk; rw [hx] at he; cases he)), h.h11.step (flat_int _) (ExtQ.setCell_grown _ _ _ _) (fun k hk cells fr he => (by cases hk; rw [hx] at he; cases he)), h.h12.step flat_bool (ExtQ.setCell_grown _ _ _ _) (fun k hk cells fr he => (by cases hk; rw [hx] at he; cases he)), h.nl⟩
theorem ActV.setR {b0 : Nat} {W : World} {x : Act} {u4 u11 u12 : Value} (h : ActV b0 W x u4 u11 u12) {g : Nat} {cs : Array Value} (hx : W.heap[g]? = some (.cells cs 34)) (ds : Array Value) : ActV b0 (W.setRow g ds) x u4 u11 u12 :=
 ⟨h.h4.step flat_lv (setRow_grown _ _ _) (fun k hk cells fr he => (by cases hk; rw [hx] at he; cases he)), h.h11.step (flat_int _) (setRow_grown _ _ _) (fun k hk cells fr he => (by cases hk; rw [hx] at he; cases he)), h.h12.step flat_bool (setRow_grown _ _ _) (fun k hk cells fr he => (by cases hk; rw [hx] at he; cases he)), h.nl⟩
theorem cells_one (x : Act) (u4 u11 u12 : Value) (h : u4.oneCell' = true /\ u11.oneCell' = true /\ u12.oneCell' = true) : (#[.int .i64 x.f0, .int .i64 x.f1, .int .i64 x.f2, .int .i64 x.f3, u4, .int .u32 x.f5, .int .u32 x.f6, .int .u32 x.f7, .int .u64 x.f8.f0, .int .u64 x.f8.f1, .int .i64 x.f9, u11, u12]).all (·.oneCell') = true := by
 obtain ⟨h1, h2, h3⟩ := h
 show ([.int .i64 x.f0, .int .i64 x.f1, .int .i64 x.f2, .int .i64 x.f3, u4, .int .u32 x.f5, .int .u32 x.f6, .int .u32 x.f7, .int .u64 x.f8.f0, .int .u64 x.f8.f1, .int .i64 x.f9, u11, u12].toArray).all (·.oneCell') = true
 rw [List.all_toArray]
 simp only [List.all_cons, List.all_nil, h1, h2, h3]
 rfl
theorem rd_pre (cp : List Value) {x : Act} {u4 u11 u12 : Value} {b0 : Nat} {w : World} (hV : ActV b0 w x u4 u11 u12) : Zz (Bx w (((w.alloc (.cells cp.toArray 25)).alloc (.cells #[.int .i64 x.f0, .int .i64 x.f1, .int .i64 x.f2, .int .i64 x.f3, u4, .int .u32 x.f5, .int .u32 x.f6, .int .u32 x.f7, .int .u64 x.f8.f0, .int .u64 x.f8.f1, .int .i64 x.f9, u11, u12] 34)).alloc (.cells #[.int .i64 0, .int .i64 0, .int .i64 0, .int .i64 0, .slice none 0 0, .int .u32 0, .int .u32 0, .int .u32 0, .int .u64 0, .int .u64 0, .int .i64 0, .slice none 0 0, .slice none 0 0] 34)) w.heap.size cp 25) /\ Zz (Bx w (((w.alloc (.cells cp.toArray 25)).alloc (.cells #[.int .i64 x.f0, .int .i64 x.f1, .int .i64 x.f2, .int .i64 x.f3, u4, .int .u32 x.f5, .int .u32 x.f6, .int .u32 x.f7, .int .u64 x.f8.f0, .int .u64 x.f8.f1, .int .i64 x.f9, u11, u12] 34)).alloc (.cells #[.int .i64 0, .int .i64 0, .int .i64 0, .int .i64 0, .slice none 0 0, .int .u32 0, .int .u32 0, .int .u32 0, .int .u64 0, .int .u64 0, .int .i64 0, .slice none 0 0, .slice none 0 0] 34)) (w.heap.size + 1) [.int .i64 x.f0, .int .i64 x.f1, .int .i64 x.f2, .int .i64 x.f3, u4, .int .u32 x.f5, .int .u32 x.f6, .int .u32 x.f7, .int .u64 x.f8.f0, .int .u64 x.f8.f1, .int .i64 x.f9, u11, u12] 34) /\ Zz (Bx w (((w.alloc (.cells cp.toArray 25)).alloc (.cells #[.int .i64 x.f0, .int .i64 x.f1, .int .i64 x.f2, .int .i64 x.f3, u4, .int .u32 x.f5, .int .u32 x.f6, .int .u32 x.f7, .int .u64 x.f8.f0, .int .u64 x.f8.f1, .int .i64 x.f9, u11, u12] 34)).alloc (.cells #[.int .i64 0, .int .i64 0, .int .i64 0, .int .i64 0, .slice none 0 0, .int .u32 0, .int .u32 0, .int .u32 0, .int .u64 0, .int .u64 0, .int .i64 0, .slice none 0 0, .slice none 0 0] 34)) (w.heap.size + 1 + 1) [.int .i64 0, .int .i64 0, .int .i64 0, .int .i64 0, .slice none 0 0, .int .u32 0, .int .u32 0, .int .u32 0, .int .u64 0, .int .u64 0, .int .i64 0, .slice none 0 0, .slice none 0 0] 34) /\ Zz (ActV b0 (((w.alloc (.cells cp.toArray 25)).alloc (.cells #[.int .i64 x.f0, .int .i64 x.f1, .int .i64 x.f2, .int .i64 x.f3, u4, .int .u32 x.f5, .int .u32 x.f6, .int .u32 x.f7, .int .u64 x.f8.f0, .int .u64 x.f8.f1, .int .i64 x.f9, u11, u12] 34)).alloc (.cells #[.int .i64 0, .int .i64 0, .int .i64 0, .int .i64 0, .slice none 0 0, .int .u32 0, .int .u32 0, .int .u32 0, .int .u64 0, .int .u64 0, .int .i64 0, .slice none 0 0, .slice none 0 0] 34)) x u4 u11 u12) :=
 ⟨⟨((Bx.new w cp 25).push (.cells #[.int .i64 x.f0, .int .i64 x.f1, .int .i64 x.f2, .int .i64 x.f3, u4, .int .u32 x.f5, .int .u32 x.f6, .int .u32 x.f7, .int .u64 x.f8.f0, .int .u64 x.f8.f1, .int .i64 x.f9, u11, u12] 34)).push (.cells #[.int .i64 0, .int .i64 0, .int .i64 0, .int .i64 0, .slice none 0 0, .int .u32 0, .int .u32 0, .int .u32 0, .int .u64 0, .int .u64 0, .int .i64 0, .slice none 0 0, .slice none 0 0] 34)⟩, ⟨((Bx.new w cp 25).on [.int .i64 x.f0, .int .i64 x.f1, .int .i64 x.f2, .int .i64 x.f3, u4, .int .u32 x.f5, .int .u32 x.f6, .int .u32 x.f7, .int .u64 x.f8.f0, .int .u64 x.f8.f1, .int .i64 x.f9, u11, u12] 34 |>.at_ (show _ = w.heap.size + 1 by simp)).push (.cells #[.int .i64 0, .int .i64 0, .int .i64 0, .int .i64 0, .slice none 0 0, .int .u32 0, .int .u32 0, .int .u32 0, .int .u64 0, .int .u64 0, .int .i64 0, .slice none 0 0, .slice none 0 0] 34)⟩, ⟨((Bx.new w cp 25).push (.cells #[.int .i64 x.f0, .int .i64 x.f1, .int .i64 x.f2, .int .i64 x.f3, u4, .int .u32 x.f5, .int .u32 x.f6, .int .u32 x.f7, .int .u64 x.f8.f0, .int .u64 x.f8.f1, .int .i64 x.f9, u11, u12] 34)).on [.int .i64 0, .int .i64 0, .int .i64 0, .int .i64 0, .slice none 0 0, .int .u32 0, .int .u32 0, .int .u32 0, .int .u64 0, .int .u64 0, .int .i64 0, .slice none 0 0, .slice none 0 0] 34 |>.at_ (show _ = w.heap.size + 1 + 1 by simp)⟩, ⟨hV.below ((((Below.refl w.heap.size w).alloc (Nat.le_refl _) (.cells cp.toArray 25)).alloc (by simp) (.cells #[.int .i64 x.f0, .int .i64 x.f1, .int .i64 x.f2, .int .i64 x.f3, u4, .int .u32 x.f5, .int .u32 x.f6, .int .u32 x.f7, .int .u64 x.f8.f0, .int .u64 x.f8.f1, .int .i64 x.f9, u11, u12] 34)).alloc (by simp; omega) (.cells #[.int .i64 0, .int .i64 0, .int .i64 0, .int .i64 0, .slice none 0 0, .int .u32 0, .int .u32 0, .int .u32 0, .int .u64 0, .int .u64 0, .int .i64 0, .slice none 0 0, .slice none 0 0] 34))⟩⟩
theorem read_k (p : Plan) (cp : List Value) (x : Act) (u4 u11 u12 : Value) (b i : Nat) (s0 : ByteArray) (n c : Nat) (b0 : Nat) (w : World) (hP : k25.K w p cp) (hV : ActV b0 w x u4 u11 u12) (h0 : w.cell? ⟨b, i, none⟩ = some (.string s0)) (hn : 1 <= n) (hc : n <= c) (hb0 : b0 <= w.heap.size) (hz : s0.size <= 134217728) :
 Calls Tryz.prog 40 #[.agg cp.toArray, .agg #[.int .i64 x.f0, .int .i64 x.f1, .int .i64 x.f2, .int .i64 x.f3, u4, .int .u32 x.f5, .int .u32 x.f6, .int .u32 x.f7, .int .u64 x.f8.f0, .int .u64 x.f8.f1, .int .i64 x.f9, u11, u12], .int .i32 107, .slice (some ⟨b, i, none⟩) n c] w (ReadP b0 w ({ x with f6 := (numS s0).1 % 4294967296 })) := by
 obtain ⟨P0, X0, S0, HV⟩ := rd_pre cp hV
 have cD := Lib.hid (fun W => digits_walk s0 W (by omega))
 have hlt := World.block_lt_of_cell? w _ h0
 have k0 := (P0.out.hb.cell (p := ⟨b, i, none⟩) hlt).trans h0
 have H0 := Zz.mk h0
 obtain ⟨B2, d2, B3, d3, rfl, m2, e2, m3, e3⟩ := k25_open hP
 have hn1 : (0 : Int) < (n : Int) := by omega
 clear hP e2 m2 e3 m3 hV h0
 generalize hm : numS s0 = m at *
 clear hm
 go_enter Tryz.func40, Tryz.ntmps40
 go_wp2_with fail
 refine (cD.out _).mono ?_
 rintro e v ⟨rfl, hb⟩
 replace P0 := Zz.mk (P0.out.next hb)
 replace X0 := Zz.mk (X0.out.next hb)
 replace S0 := Zz.mk (S0.out.next hb)
 replace HV := Zz.mk (HV.out.below hb)
 clear hb cD k0
 have q := blk_cell X0.out.row 6
 have z := blk_free X0.out.row 6
 have HX : Zz ((v.setCell ⟨w.heap.size + 1, 6, none⟩ (.int .u32 ((m).1 % 4294967296))).heap[w.heap.size + 1]? = some (.cells #[.int .i64 x.f0, .int .i64 x.f1, .int .i64 x.f2, .int .i64 x.f3, u4, .int .u32 x.f5, .int .u32 ((m).1 % 4294967296), .int .u32 x.f7, .int .u64 x.f8.f0, .int .u64 x.f8.f1, .int .i64 x.f9, u11, u12] 34)) := ⟨blk_set X0.out.row 6 (.int .u32 ((m).1 % 4294967296))⟩
 have HS := Zz.mk (ExtQ.row_step S0.out.row (ExtQ.setCell_grown v (w.heap.size + 1) 6 (.int .u32 ((m).1 % 4294967296))) (by omega))
 have HB := Zz.mk (P0.out.hb.setCell (p := ⟨w.heap.size + 1, 6, none⟩) (by show _ <= w.heap.size + 1; omega) (.int .u32 ((m).1 % 4294967296)))
 have HV2 := Zz.mk (HV.out.set X0.out.row 6 (.int .u32 ((m).1 % 4294967296)))
 obtain ⟨q0, q1, q2, q3, q4, q5, q6, q7, q8, q9, q10, q11, q12⟩ := cls13 HX.out
 go_wp2_with (first
  | (refine wpList_store_row rfl 34 (.tmp 8) (.tmp 143) rfl (w.heap.size + 1 + 1) #[.int .i64 x.f0, .int .i64 x.f1, .int .i64 x.f2, .int .i64 x.f3, u4, .int .u32 x.f5, .int .u32 ((m).1 % 4294967296), .int .u32 x.f7, .int .u64 x.f8.f0, .int .u64 x.f8.f1, .int .i64 x.f9, u11, u12] rfl rfl 34 _ HS.out actC_info2 rfl (cells_one (x := { x with f6 := (m).1 % 4294967296 }) _ _ _ HV.out.ones) ?_)
  | fail)
 refine bodyPost_ret (v := .agg #[.int .i64 x.f0, .int .i64 x.f1, .int .i64 x.f2, .int .i64 x.f3, u4, .int .u32 x.f5, .int .u32 ((m).1 % 4294967296), .int .u32 x.f7, .int .u64 x.f8.f0, .int .u64 x.f8.f1, .int .i64 x.f9, u11, u12]) (results_cell1 Tryz.results40 _ _ _ (w.heap.size + 1 + 1) rfl _ (run_loadVar_row _ (w.heap.size + 1 + 1) 34 34 _ (0, 0) _ (setRow_heap _ _ _ _ _ _ HS.out) Tryz.underlying34 rfl actC_info2)) rfl ?_
 exact ⟨_, _, _, rfl, ⟨(HV2.out.setR HS.out _).h4, (HV2.out.setR HS.out _).h11, (HV2.out.setR HS.out _).h12, HV2.out.nl⟩, below_setRow HB.out (by omega) _⟩
theorem read_i (p : Plan) (cp : List Value) (x : Act) (u4 u11 u12 : Value) (b i : Nat) (s0 : ByteArray) (n c : Nat) (b0 : Nat) (w : World) (hP : k25.K w p cp) (hV : ActV b0 w x u4 u11 u12) (h0 : w.cell? ⟨b, i, none⟩ = some (.string s0)) (hn : 1 <= n) (hc : n <= c) (hb0 : b0 <= w.heap.size) (hz : s0.size <= 134217728) :
 Calls Tryz.prog 40 #[.agg cp.toArray, .agg #[.int .i64 x.f0, .int .i64 x.f1, .int .i64 x.f2, .int .i64 x.f3, u4, .int .u32 x.f5, .int .u32 x.f6, .int .u32 x.f7, .int .u64 x.f8.f0, .int .u64 x.f8.f1, .int .i64 x.f9, u11, u12], .int .i32 105, .slice (some ⟨b, i, none⟩) n c] w (ReadP b0 w ({ x with f7 := (numS s0).1 % 4294967296 })) := by
 obtain ⟨P0, X0, S0, HV⟩ := rd_pre cp hV
 have cD := Lib.hid (fun W => digits_walk s0 W (by omega))
 have hlt := World.block_lt_of_cell? w _ h0
 have k0 := (P0.out.hb.cell (p := ⟨b, i, none⟩) hlt).trans h0
 have H0 := Zz.mk h0
 obtain ⟨B2, d2, B3, d3, rfl, m2, e2, m3, e3⟩ := k25_open hP
 have hn1 : (0 : Int) < (n : Int) := by omega
 clear hP e2 m2 e3 m3 hV h0
 generalize hm : numS s0 = m at *
 clear hm
 go_enter Tryz.func40, Tryz.ntmps40
 go_wp2_with fail
 refine (cD.out _).mono ?_
 rintro e v ⟨rfl, hb⟩
 replace P0 := Zz.mk (P0.out.next hb)
 replace X0 := Zz.mk (X0.out.next hb)
 replace S0 := Zz.mk (S0.out.next hb)
 replace HV := Zz.mk (HV.out.below hb)
 clear hb cD k0
 have q := blk_cell X0.out.row 7
 have z := blk_free X0.out.row 7
 have HX : Zz ((v.setCell ⟨w.heap.size + 1, 7, none⟩ (.int .u32 ((m).1 % 4294967296))).heap[w.heap.size + 1]? = some (.cells #[.int .i64 x.f0, .int .i64 x.f1, .int .i64 x.f2, .int .i64 x.f3, u4, .int .u32 x.f5, .int .u32 x.f6, .int .u32 ((m).1 % 4294967296), .int .u64 x.f8.f0, .int .u64 x.f8.f1, .int .i64 x.f9, u11, u12] 34)) := ⟨blk_set X0.out.row 7 (.int .u32 ((m).1 % 4294967296))⟩
 have HS := Zz.mk (ExtQ.row_step S0.out.row (ExtQ.setCell_grown v (w.heap.size + 1) 7 (.int .u32 ((m).1 % 4294967296))) (by omega))
 have HB := Zz.mk (P0.out.hb.setCell (p := ⟨w.heap.size + 1, 7, none⟩) (by show _ <= w.heap.size + 1; omega) (.int .u32 ((m).1 % 4294967296)))
 have HV2 := Zz.mk (HV.out.set X0.out.row 7 (.int .u32 ((m).1 % 4294967296)))
 obtain ⟨q0, q1, q2, q3, q4, q5, q6, q7, q8, q9, q10, q11, q12⟩ := cls13 HX.out
 go_wp2_with (first
  | (refine wpList_store_row rfl 34 (.tmp 8) (.tmp 143) rfl (w.heap.size + 1 + 1) #[.int .i64 x.f0, .int .i64 x.f1, .int .i64 x.f2, .int .i64 x.f3, u4, .int .u32 x.f5, .int .u32 x.f6, .int .u32 ((m).1 % 4294967296), .int .u64 x.f8.f0, .int .u64 x.f8.f1, .int .i64 x.f9, u11, u12] rfl rfl 34 _ HS.out actC_info2 rfl (cells_one (x := { x with f7 := (m).1 % 4294967296 }) _ _ _ HV.out.ones) ?_)
  | fail)
 refine bodyPost_ret (v := .agg #[.int .i64 x.f0, .int .i64 x.f1, .int .i64 x.f2, .int .i64 x.f3, u4, .int .u32 x.f5, .int .u32 x.f6, .int .u32 ((m).1 % 4294967296), .int .u64 x.f8.f0, .int .u64 x.f8.f1, .int .i64 x.f9, u11, u12]) (results_cell1 Tryz.results40 _ _ _ (w.heap.size + 1 + 1) rfl _ (run_loadVar_row _ (w.heap.size + 1 + 1) 34 34 _ (0, 0) _ (setRow_heap _ _ _ _ _ _ HS.out) Tryz.underlying34 rfl actC_info2)) rfl ?_
 exact ⟨_, _, _, rfl, ⟨(HV2.out.setR HS.out _).h4, (HV2.out.setR HS.out _).h11, (HV2.out.setR HS.out _).h12, HV2.out.nl⟩, below_setRow HB.out (by omega) _⟩
theorem read_b (ch : Int) (hch : ch = 98 \/ ch = 110) (p : Plan) (cp : List Value) (x : Act) (u4 u11 u12 : Value) (b i : Nat) (s0 : ByteArray) (n c : Nat) (b0 : Nat) (w : World) (hP : k25.K w p cp) (hV : ActV b0 w x u4 u11 u12) (h0 : w.cell? ⟨b, i, none⟩ = some (.string s0)) (hn : 1 <= n) (hc : n <= c) (hb0 : b0 <= w.heap.size) (hz : s0.size <= 134217728) (hle : (numS s0).1 <= 1073741824) :
 Calls Tryz.prog 40 #[.agg cp.toArray, .agg #[.int .i64 x.f0, .int .i64 x.f1, .int .i64 x.f2, .int .i64 x.f3, u4, .int .u32 x.f5, .int .u32 x.f6, .int .u32 x.f7, .int .u64 x.f8.f0, .int .u64 x.f8.f1, .int .i64 x.f9, u11, u12], .int .i32 ch, .slice (some ⟨b, i, none⟩) n c] w (ReadP b0 w ({ x with f9 := (numS s0).1 })) := by
 obtain rfl | rfl := hch
 all_goals
  have hbd := numS_bd s0
  obtain ⟨P0, X0, S0, HV⟩ := rd_pre cp hV
  have cD := Lib.hid (fun W => digits_walk s0 W (by omega))
  have hlt := World.block_lt_of_cell? w _ h0
  have k0 := (P0.out.hb.cell (p := ⟨b, i, none⟩) hlt).trans h0
  have H0 := Zz.mk h0
  obtain ⟨B2, d2, B3, d3, rfl, m2, e2, m3, e3⟩ := k25_open hP
  have hn1 : (0 : Int) < (n : Int) := by omega
  clear hP e2 m2 e3 m3 hV h0
  generalize hm : numS s0 = m at *
  clear hm
  go_enter Tryz.func40, Tryz.ntmps40
  go_wp2_with fail
  refine (cD.out _).mono ?_
  rintro e v ⟨rfl, hb⟩
  replace P0 := Zz.mk (P0.out.next hb)
  replace X0 := Zz.mk (X0.out.next hb)
  replace S0 := Zz.mk (S0.out.next hb)
  replace HV := Zz.mk (HV.out.below hb)
  clear hb cD k0
  have q := blk_cell X0.out.row 10
  have z := blk_free X0.out.row 10
  have HX : Zz ((v.setCell ⟨w.heap.size + 1, 10, none⟩ (.int .i64 ((m).1))).heap[w.heap.size + 1]? = some (.cells #[.int .i64 x.f0, .int .i64 x.f1, .int .i64 x.f2, .int .i64 x.f3, u4, .int .u32 x.f5, .int .u32 x.f6, .int .u32 x.f7, .int .u64 x.f8.f0, .int .u64 x.f8.f1, .int .i64 ((m).1), u11, u12] 34)) := ⟨blk_set X0.out.row 10 (.int .i64 ((m).1))⟩
  have HS := Zz.mk (ExtQ.row_step S0.out.row (ExtQ.setCell_grown v (w.heap.size + 1) 10 (.int .i64 ((m).1))) (by omega))
  have HB := Zz.mk (P0.out.hb.setCell (p := ⟨w.heap.size + 1, 10, none⟩) (by show _ <= w.heap.size + 1; omega) (.int .i64 ((m).1)))
  have HV2 := Zz.mk (HV.out.set X0.out.row 10 (.int .i64 ((m).1)))
  obtain ⟨q0, q1, q2, q3, q4, q5, q6, q7, q8, q9, q10, q11, q12⟩ := cls13 HX.out
  go_wp2_with (first
   | (refine wpList_store_row rfl 34 (.tmp 8) (.tmp 143) rfl (w.heap.size + 1 + 1) #[.int .i64 x.f0, .int .i64 x.f1, .int .i64 x.f2, .int .i64 x.f3, u4, .int .u32 x.f5, .int .u32 x.f6, .int .u32 x.f7, .int .u64 x.f8.f0, .int .u64 x.f8.f1, .int .i64 ((m).1), u11, u12] rfl rfl 34 _ HS.out actC_info2 rfl (cells_one (x := { x with f9 := (m).1 }) _ _ _ HV.out.ones) ?_)
   | fail)
  refine bodyPost_ret (v := .agg #[.int .i64 x.f0, .int .i64 x.f1, .int .i64 x.f2, .int .i64 x.f3, u4, .int .u32 x.f5, .int .u32 x.f6, .int .u32 x.f7, .int .u64 x.f8.f0, .int .u64 x.f8.f1, .int .i64 ((m).1), u11, u12]) (results_cell1 Tryz.results40 _ _ _ (w.heap.size + 1 + 1) rfl _ (run_loadVar_row _ (w.heap.size + 1 + 1) 34 34 _ (0, 0) _ (setRow_heap _ _ _ _ _ _ HS.out) Tryz.underlying34 rfl actC_info2)) rfl ?_
  exact ⟨_, _, _, rfl, ⟨(HV2.out.setR HS.out _).h4, (HV2.out.setR HS.out _).h11, (HV2.out.setR HS.out _).h12, HV2.out.nl⟩, below_setRow HB.out (by omega) _⟩
theorem read_b0 (ch : Int) (hch : ch = 98 \/ ch = 110) (p : Plan) (cp : List Value) (x : Act) (u4 u11 u12 : Value) (b i : Nat) (s0 : ByteArray) (n c : Nat) (b0 : Nat) (w : World) (hP : k25.K w p cp) (hV : ActV b0 w x u4 u11 u12) (h0 : w.cell? ⟨b, i, none⟩ = some (.string s0)) (hn : 1 <= n) (hc : n <= c) (hb0 : b0 <= w.heap.size) (hz : s0.size <= 134217728) (hle : ¬ (numS s0).1 <= 1073741824) :
 Calls Tryz.prog 40 #[.agg cp.toArray, .agg #[.int .i64 x.f0, .int .i64 x.f1, .int .i64 x.f2, .int .i64 x.f3, u4, .int .u32 x.f5, .int .u32 x.f6, .int .u32 x.f7, .int .u64 x.f8.f0, .int .u64 x.f8.f1, .int .i64 x.f9, u11, u12], .int .i32 ch, .slice (some ⟨b, i, none⟩) n c] w (ReadP b0 w (x)) := by
 obtain rfl | rfl := hch
 all_goals
  have hbd := numS_bd s0
  obtain ⟨P0, X0, S0, HV⟩ := rd_pre cp hV
  have cD := Lib.hid (fun W => digits_walk s0 W (by omega))
  have hlt := World.block_lt_of_cell? w _ h0
  have k0 := (P0.out.hb.cell (p := ⟨b, i, none⟩) hlt).trans h0
  have H0 := Zz.mk h0
  obtain ⟨B2, d2, B3, d3, rfl, m2, e2, m3, e3⟩ := k25_open hP
  have hn1 : (0 : Int) < (n : Int) := by omega
  clear hP e2 m2 e3 m3 hV h0
  generalize hm : numS s0 = m at *
  clear hm
  go_enter Tryz.func40, Tryz.ntmps40
  go_wp2_with fail
  refine (cD.out _).mono ?_
  rintro e v ⟨rfl, hb⟩
  replace P0 := Zz.mk (P0.out.next hb)
  replace X0 := Zz.mk (X0.out.next hb)
  replace S0 := Zz.mk (S0.out.next hb)
  replace HV := Zz.mk (HV.out.below hb)
  clear hb cD k0
  have HX := Zz.mk X0.out.row
  have HS := Zz.mk S0.out.row
  have HB := Zz.mk P0.out.hb
  obtain ⟨q0, q1, q2, q3, q4, q5, q6, q7, q8, q9, q10, q11, q12⟩ := cls13 HX.out
  go_wp2_with (first
   | (refine wpList_store_row rfl 34 (.tmp 8) (.tmp 143) rfl (w.heap.size + 1 + 1) #[.int .i64 x.f0, .int .i64 x.f1, .int .i64 x.f2, .int .i64 x.f3, u4, .int .u32 x.f5, .int .u32 x.f6, .int .u32 x.f7, .int .u64 x.f8.f0, .int .u64 x.f8.f1, .int .i64 x.f9, u11, u12] rfl rfl 34 _ HS.out actC_info2 rfl (cells_one x _ _ _ HV.out.ones) ?_)
   | fail)
  refine bodyPost_ret (v := .agg #[.int .i64 x.f0, .int .i64 x.f1, .int .i64 x.f2, .int .i64 x.f3, u4, .int .u32 x.f5, .int .u32 x.f6, .int .u32 x.f7, .int .u64 x.f8.f0, .int .u64 x.f8.f1, .int .i64 x.f9, u11, u12]) (results_cell1 Tryz.results40 _ _ _ (w.heap.size + 1 + 1) rfl _ (run_loadVar_row _ (w.heap.size + 1 + 1) 34 34 _ (0, 0) _ (setRow_heap _ _ _ _ _ _ HS.out) Tryz.underlying34 rfl actC_info2)) rfl ?_
  exact ⟨_, _, _, rfl, HV.out.setR HS.out _, below_setRow HB.out (by omega) _⟩
theorem read_w (ch : Int) (hch : ch = 119 \/ ch = 120) (p : Plan) (cp : List Value) (x : Act) (u4 u11 u12 : Value) (b i : Nat) (s0 : ByteArray) (n c : Nat) (b0 : Nat) (w : World) (hP : k25.K w p cp) (hV : ActV b0 w x u4 u11 u12) (h0 : w.cell? ⟨b, i, none⟩ = some (.string s0)) (hn : 1 <= n) (hc : n <= c) (hb0 : b0 <= w.heap.size) (hz : s0.size <= 134217728) :
 Calls Tryz.prog 40 #[.agg cp.toArray, .agg #[.int .i64 x.f0, .int .i64 x.f1, .int .i64 x.f2, .int .i64 x.f3, u4, .int .u32 x.f5, .int .u32 x.f6, .int .u32 x.f7, .int .u64 x.f8.f0, .int .u64 x.f8.f1, .int .i64 x.f9, u11, u12], .int .i32 ch, .slice (some ⟨b, i, none⟩) n c] w (ReadP b0 w ({ x with f10 := (unhexS s0).1 })) := by
 obtain rfl | rfl := hch
 all_goals
  obtain ⟨P0, X0, S0, HV⟩ := rd_pre cp hV
  have cD := Lib.hid (fun W => digits_walk s0 W (by omega))
  have hlt := World.block_lt_of_cell? w _ h0
  have k0 := (P0.out.hb.cell (p := ⟨b, i, none⟩) hlt).trans h0
  have H0 := Zz.mk h0
  obtain ⟨B2, d2, B3, d3, rfl, m2, e2, m3, e3⟩ := k25_open hP
  have hn1 : (0 : Int) < (n : Int) := by omega
  clear hP e2 m2 e3 m3 hV h0
  generalize hm : numS s0 = m at *
  clear hm
  have cU := Lib.hid (fun W => refUnhex_walk s0 W (by omega))
  go_enter Tryz.func40, Tryz.ntmps40
  go_wp2_with fail
  refine (cD.out _).mono ?_
  rintro e v ⟨rfl, hb⟩
  replace P0 := Zz.mk (P0.out.next hb)
  replace X0 := Zz.mk (X0.out.next hb)
  replace S0 := Zz.mk (S0.out.next hb)
  replace HV := Zz.mk (HV.out.below hb)
  clear hb cD k0
  have hvv : b0 <= v.heap.size := Nat.le_trans hb0 P0.out.hb.size
  have k1 := (P0.out.hb.cell (p := ⟨b, i, none⟩) hlt).trans H0.out
  go_wp2_with fail
  refine (cU.out _).mono ?_
  rintro e v1 ⟨u, rfl, hR, hb⟩
  replace P0 := Zz.mk (P0.out.next hb)
  replace X0 := Zz.mk (X0.out.next hb)
  replace S0 := Zz.mk (S0.out.next hb)
  replace HV := Zz.mk (HV.out.below hb)
  have HH := Zz.mk ((Held.of hR).lower hvv)
  obtain ⟨A1, c1, rfl, -, -⟩ := Kd.R_reads hR
  clear hb hR cU k1
  have q := blk_cell X0.out.row 11
  have z := blk_free X0.out.row 11
  have HX : Zz ((v1.setCell ⟨w.heap.size + 1, 11, none⟩ (.slice A1 (unhexS s0).1.length c1)).heap[w.heap.size + 1]? = some (.cells #[.int .i64 x.f0, .int .i64 x.f1, .int .i64 x.f2, .int .i64 x.f3, u4, .int .u32 x.f5, .int .u32 x.f6, .int .u32 x.f7, .int .u64 x.f8.f0, .int .u64 x.f8.f1, .int .i64 x.f9, (.slice A1 (unhexS s0).1.length c1), u12] 34)) := ⟨blk_set X0.out.row 11 (.slice A1 (unhexS s0).1.length c1)⟩
  have HS := Zz.mk (ExtQ.row_step S0.out.row (ExtQ.setCell_grown v1 (w.heap.size + 1) 11 (.slice A1 (unhexS s0).1.length c1)) (by omega))
  have HB := Zz.mk (P0.out.hb.setCell (p := ⟨w.heap.size + 1, 11, none⟩) (by show _ <= w.heap.size + 1; omega) (.slice A1 (unhexS s0).1.length c1))
  have HV2 := Zz.mk (HV.out.set X0.out.row 11 (.slice A1 (unhexS s0).1.length c1))
  have HH2 := Zz.mk (HH.out.step (flat_int _) (ExtQ.setCell_grown v1 (w.heap.size + 1) 11 (.slice A1 (unhexS s0).1.length c1)) (fun k hk cells fr he => (by cases hk; rw [X0.out.row] at he; cases he)))
  obtain ⟨q0, q1, q2, q3, q4, q5, q6, q7, q8, q9, q10, q11, q12⟩ := cls13 HX.out
  go_wp2_with (first
   | (refine wpList_store_row rfl 34 (.tmp 8) (.tmp 143) rfl (w.heap.size + 1 + 1) #[.int .i64 x.f0, .int .i64 x.f1, .int .i64 x.f2, .int .i64 x.f3, u4, .int .u32 x.f5, .int .u32 x.f6, .int .u32 x.f7, .int .u64 x.f8.f0, .int .u64 x.f8.f1, .int .i64 x.f9, (.slice A1 (unhexS s0).1.length c1), u12] rfl rfl 34 _ HS.out actC_info2 rfl (cells_one x _ _ _ ⟨HV.out.ones.1, rfl, HV.out.ones.2.2⟩) ?_)
   | fail)
  refine bodyPost_ret (v := .agg #[.int .i64 x.f0, .int .i64 x.f1, .int .i64 x.f2, .int .i64 x.f3, u4, .int .u32 x.f5, .int .u32 x.f6, .int .u32 x.f7, .int .u64 x.f8.f0, .int .u64 x.f8.f1, .int .i64 x.f9, (.slice A1 (unhexS s0).1.length c1), u12]) (results_cell1 Tryz.results40 _ _ _ (w.heap.size + 1 + 1) rfl _ (run_loadVar_row _ (w.heap.size + 1 + 1) 34 34 _ (0, 0) _ (setRow_heap _ _ _ _ _ _ HS.out) Tryz.underlying34 rfl actC_info2)) rfl ?_
  exact ⟨_, _, _, rfl, ⟨(HV2.out.setR HS.out _).h4, HH2.out.step (flat_int _) (setRow_grown _ _ _) (fun k hk cells fr he => (by cases hk; rw [HS.out] at he; cases he)), (HV2.out.setR HS.out _).h12, HV2.out.nl⟩, below_setRow HB.out (by omega) _⟩
theorem read_m (p : Plan) (cp : List Value) (x : Act) (u4 u11 u12 : Value) (b i : Nat) (s0 : ByteArray) (n c : Nat) (b0 : Nat) (w : World) (hP : k25.K w p cp) (hV : ActV b0 w x u4 u11 u12) (h0 : w.cell? ⟨b, i, none⟩ = some (.string s0)) (hn : 1 <= n) (hc : n <= c) (hb0 : b0 <= w.heap.size) (hz : s0.size <= 134217728) :
 Calls Tryz.prog 40 #[.agg cp.toArray, .agg #[.int .i64 x.f0, .int .i64 x.f1, .int .i64 x.f2, .int .i64 x.f3, u4, .int .u32 x.f5, .int .u32 x.f6, .int .u32 x.f7, .int .u64 x.f8.f0, .int .u64 x.f8.f1, .int .i64 x.f9, u11, u12], .int .i32 109, .slice (some ⟨b, i, none⟩) n c] w (ReadP b0 w ({ x with f10 := bytesOf (unqS s0).1 })) := by
 have hq : (unqS s0).1.size <= 17592186044416 := Nat.le_trans (unqS_size s0) (by omega)
 obtain ⟨P0, X0, S0, HV⟩ := rd_pre cp hV
 have cD := Lib.hid (fun W => digits_walk s0 W (by omega))
 have hlt := World.block_lt_of_cell? w _ h0
 have k0 := (P0.out.hb.cell (p := ⟨b, i, none⟩) hlt).trans h0
 have H0 := Zz.mk h0
 obtain ⟨B2, d2, B3, d3, rfl, m2, e2, m3, e3⟩ := k25_open hP
 have hn1 : (0 : Int) < (n : Int) := by omega
 clear hP e2 m2 e3 m3 hV h0
 generalize hm : numS s0 = m at *
 clear hm
 have cU := Lib.hid (fun W => r_Unquote s0 W (by omega))
 have hcv := fun W => Lib.run_convert_string_bytes (P := Tryz.prog) W 9 31 5 (unqS s0).1 Tryz.underlying9 Tryz.underlying31 Tryz.underlying5
 have hh := Lib.hid (fun W => held_conv W (unqS s0).1 hq)
 generalize (unqS s0).1 = s1 at *
 generalize (unqS s0).2 = s2 at *
 go_enter Tryz.func40, Tryz.ntmps40
 go_wp2_with fail
 refine (cD.out _).mono ?_
 rintro e v ⟨rfl, hb⟩
 replace P0 := Zz.mk (P0.out.next hb)
 replace X0 := Zz.mk (X0.out.next hb)
 replace S0 := Zz.mk (S0.out.next hb)
 replace HV := Zz.mk (HV.out.below hb)
 clear hb cD k0
 have hvv : b0 <= v.heap.size := Nat.le_trans hb0 P0.out.hb.size
 have k1 := (P0.out.hb.cell (p := ⟨b, i, none⟩) hlt).trans H0.out
 go_wp2_with fail
 refine (cU.out _).mono ?_
 rintro e v1 ⟨rfl, hb⟩
 have hbw : Below v1.heap.size v1 (Lib.bytesWorld v1 5 s1) := below_bytes v1 s1
 have hv1 : b0 <= v1.heap.size := Nat.le_trans hvv hb.size
 replace P0 := Zz.mk ((P0.out.next hb).next hbw)
 replace X0 := Zz.mk ((X0.out.next hb).next hbw)
 replace S0 := Zz.mk ((S0.out.next hb).next hbw)
 replace HV := Zz.mk ((HV.out.below hb).below hbw)
 have HH := Zz.mk ((hh.out v1).lower hv1)
 clear hb hbw cU k1 hh
 have q := blk_cell X0.out.row 11
 have z := blk_free X0.out.row 11
 have HX : Zz (((Lib.bytesWorld v1 5 s1).setCell ⟨w.heap.size + 1, 11, none⟩ (.slice (some ⟨v1.heap.size, 0, none⟩) s1.size (grownCap v1 s1.size 0 5))).heap[w.heap.size + 1]? = some (.cells #[.int .i64 x.f0, .int .i64 x.f1, .int .i64 x.f2, .int .i64 x.f3, u4, .int .u32 x.f5, .int .u32 x.f6, .int .u32 x.f7, .int .u64 x.f8.f0, .int .u64 x.f8.f1, .int .i64 x.f9, (.slice (some ⟨v1.heap.size, 0, none⟩) s1.size (grownCap v1 s1.size 0 5)), u12] 34)) := ⟨blk_set X0.out.row 11 (.slice (some ⟨v1.heap.size, 0, none⟩) s1.size (grownCap v1 s1.size 0 5))⟩
 have HS := Zz.mk (ExtQ.row_step S0.out.row (ExtQ.setCell_grown (Lib.bytesWorld v1 5 s1) (w.heap.size + 1) 11 (.slice (some ⟨v1.heap.size, 0, none⟩) s1.size (grownCap v1 s1.size 0 5))) (by omega))
 have HB := Zz.mk (P0.out.hb.setCell (p := ⟨w.heap.size + 1, 11, none⟩) (by show _ <= w.heap.size + 1; omega) (.slice (some ⟨v1.heap.size, 0, none⟩) s1.size (grownCap v1 s1.size 0 5)))
 have HV2 := Zz.mk (HV.out.set X0.out.row 11 (.slice (some ⟨v1.heap.size, 0, none⟩) s1.size (grownCap v1 s1.size 0 5)))
 have HH2 := Zz.mk (HH.out.step (flat_int _) (ExtQ.setCell_grown (Lib.bytesWorld v1 5 s1) (w.heap.size + 1) 11 (.slice (some ⟨v1.heap.size, 0, none⟩) s1.size (grownCap v1 s1.size 0 5))) (fun k hk cells fr he => (by cases hk; rw [X0.out.row] at he; cases he)))
 obtain ⟨q0, q1, q2, q3, q4, q5, q6, q7, q8, q9, q10, q11, q12⟩ := cls13 HX.out
 go_wp2_with (first
  | (refine wpList_store_row rfl 34 (.tmp 8) (.tmp 143) rfl (w.heap.size + 1 + 1) #[.int .i64 x.f0, .int .i64 x.f1, .int .i64 x.f2, .int .i64 x.f3, u4, .int .u32 x.f5, .int .u32 x.f6, .int .u32 x.f7, .int .u64 x.f8.f0, .int .u64 x.f8.f1, .int .i64 x.f9, (.slice (some ⟨v1.heap.size, 0, none⟩) s1.size (grownCap v1 s1.size 0 5)), u12] rfl rfl 34 _ HS.out actC_info2 rfl (cells_one x _ _ _ ⟨HV.out.ones.1, rfl, HV.out.ones.2.2⟩) ?_)
  | fail)
 refine bodyPost_ret (v := .agg #[.int .i64 x.f0, .int .i64 x.f1, .int .i64 x.f2, .int .i64 x.f3, u4, .int .u32 x.f5, .int .u32 x.f6, .int .u32 x.f7, .int .u64 x.f8.f0, .int .u64 x.f8.f1, .int .i64 x.f9, (.slice (some ⟨v1.heap.size, 0, none⟩) s1.size (grownCap v1 s1.size 0 5)), u12]) (results_cell1 Tryz.results40 _ _ _ (w.heap.size + 1 + 1) rfl _ (run_loadVar_row _ (w.heap.size + 1 + 1) 34 34 _ (0, 0) _ (setRow_heap _ _ _ _ _ _ HS.out) Tryz.underlying34 rfl actC_info2)) rfl ?_
 exact ⟨_, _, _, rfl, ⟨(HV2.out.setR HS.out _).h4, HH2.out.step (flat_int _) (setRow_grown _ _ _) (fun k hk cells fr he => (by cases hk; rw [HS.out] at he; cases he)), (HV2.out.setR HS.out _).h12, HV2.out.nl⟩, below_setRow HB.out (by omega) _⟩
theorem read_r1 (p : Plan) (cp : List Value) (x : Act) (u4 u11 u12 : Value) (b i : Nat) (s0 : ByteArray) (n c : Nat) (b0 : Nat) (w : World) (hP : k25.K w p cp) (hV : ActV b0 w x u4 u11 u12) (h0 : w.cell? ⟨b, i, none⟩ = some (.string s0)) (hn : 1 <= n) (hc : n <= c) (hb0 : b0 <= w.heap.size) (hz : s0.size <= 134217728) (hone : n = 1) :
 Calls Tryz.prog 40 #[.agg cp.toArray, .agg #[.int .i64 x.f0, .int .i64 x.f1, .int .i64 x.f2, .int .i64 x.f3, u4, .int .u32 x.f5, .int .u32 x.f6, .int .u32 x.f7, .int .u64 x.f8.f0, .int .u64 x.f8.f1, .int .i64 x.f9, u11, u12], .int .i32 114, .slice (some ⟨b, i, none⟩) n c] w (ReadP b0 w ({ x with f8 := ⟨(numS s0).1, x.f8.f1⟩ })) := by
 obtain ⟨P0, X0, S0, HV⟩ := rd_pre cp hV
 have cD := Lib.hid (fun W => digits_walk s0 W (by omega))
 have hlt := World.block_lt_of_cell? w _ h0
 have k0 := (P0.out.hb.cell (p := ⟨b, i, none⟩) hlt).trans h0
 have H0 := Zz.mk h0
 obtain ⟨B2, d2, B3, d3, rfl, m2, e2, m3, e3⟩ := k25_open hP
 have hn1 : (0 : Int) < (n : Int) := by omega
 clear hP e2 m2 e3 m3 hV h0
 generalize hm : numS s0 = m at *
 have hn2 : ¬ (1 : Int) < (n : Int) := by omega
 clear hm hone
 go_enter Tryz.func40, Tryz.ntmps40
 go_wp2_with fail
 refine (cD.out _).mono ?_
 rintro e v ⟨rfl, hb⟩
 replace P0 := Zz.mk (P0.out.next hb)
 replace X0 := Zz.mk (X0.out.next hb)
 replace S0 := Zz.mk (S0.out.next hb)
 replace HV := Zz.mk (HV.out.below hb)
 clear hb cD k0
 have q := blk_cell X0.out.row 8
 have z := blk_free X0.out.row 8
 have HX : Zz ((v.setCell ⟨w.heap.size + 1, 8, none⟩ (.int .u64 (m.1))).heap[w.heap.size + 1]? = some (.cells #[.int .i64 x.f0, .int .i64 x.f1, .int .i64 x.f2, .int .i64 x.f3, u4, .int .u32 x.f5, .int .u32 x.f6, .int .u32 x.f7, .int .u64 (m.1), .int .u64 x.f8.f1, .int .i64 x.f9, u11, u12] 34)) := ⟨blk_set X0.out.row 8 (.int .u64 (m.1))⟩
 have HS := Zz.mk (ExtQ.row_step S0.out.row (ExtQ.setCell_grown v (w.heap.size + 1) 8 (.int .u64 (m.1))) (by omega))
 have HB := Zz.mk (P0.out.hb.setCell (p := ⟨w.heap.size + 1, 8, none⟩) (by show _ <= w.heap.size + 1; omega) (.int .u64 (m.1)))
 have HV2 := Zz.mk (HV.out.set X0.out.row 8 (.int .u64 (m.1)))
 obtain ⟨q0, q1, q2, q3, q4, q5, q6, q7, q8, q9, q10, q11, q12⟩ := cls13 HX.out
 go_wp2_with (first
  | (refine wpList_store_row rfl 34 (.tmp 8) (.tmp 143) rfl (w.heap.size + 1 + 1) #[.int .i64 x.f0, .int .i64 x.f1, .int .i64 x.f2, .int .i64 x.f3, u4, .int .u32 x.f5, .int .u32 x.f6, .int .u32 x.f7, .int .u64 (m.1), .int .u64 x.f8.f1, .int .i64 x.f9, u11, u12] rfl rfl 34 _ HS.out actC_info2 rfl (cells_one { x with f8 := ⟨m.1, x.f8.f1⟩ } _ _ _ HV.out.ones) ?_)
  | fail)
 refine bodyPost_ret (v := .agg #[.int .i64 x.f0, .int .i64 x.f1, .int .i64 x.f2, .int .i64 x.f3, u4, .int .u32 x.f5, .int .u32 x.f6, .int .u32 x.f7, .int .u64 (m.1), .int .u64 x.f8.f1, .int .i64 x.f9, u11, u12]) (results_cell1 Tryz.results40 _ _ _ (w.heap.size + 1 + 1) rfl _ (run_loadVar_row _ (w.heap.size + 1 + 1) 34 34 _ (0, 0) _ (setRow_heap _ _ _ _ _ _ HS.out) Tryz.underlying34 rfl actC_info2)) rfl ?_
 exact ⟨_, _, _, rfl, ⟨(HV2.out.setR HS.out _).h4, (HV2.out.setR HS.out _).h11, (HV2.out.setR HS.out _).h12, HV2.out.nl⟩, below_setRow HB.out (by omega) _⟩
theorem read_r2 (p : Plan) (cp : List Value) (x : Act) (u4 u11 u12 : Value) (b i : Nat) (s0 : ByteArray) (n c : Nat) (b0 : Nat) (w : World) (hP : k25.K w p cp) (hV : ActV b0 w x u4 u11 u12) (h0 : w.cell? ⟨b, i, none⟩ = some (.string s0)) (hn : 1 <= n) (hc : n <= c) (hb0 : b0 <= w.heap.size) (hz : s0.size <= 134217728) (s1 : ByteArray) (h1 : w.cell? ⟨b, i + 1, none⟩ = some (.string s1)) (hn2 : 2 <= n) (hz1 : s1.size <= 134217728) :
 Calls Tryz.prog 40 #[.agg cp.toArray, .agg #[.int .i64 x.f0, .int .i64 x.f1, .int .i64 x.f2, .int .i64 x.f3, u4, .int .u32 x.f5, .int .u32 x.f6, .int .u32 x.f7, .int .u64 x.f8.f0, .int .u64 x.f8.f1, .int .i64 x.f9, u11, u12], .int .i32 114, .slice (some ⟨b, i, none⟩) n c] w (ReadP b0 w ({ x with f8 := ⟨(numS s0).1, (numS s1).1⟩ })) := by
 have hlt2 := World.block_lt_of_cell? w _ h1
 have H1 := Zz.mk h1
 have cE := Lib.hid (fun W => digits_walk s1 W (by omega))
 obtain ⟨P0, X0, S0, HV⟩ := rd_pre cp hV
 have cD := Lib.hid (fun W => digits_walk s0 W (by omega))
 have hlt := World.block_lt_of_cell? w _ h0
 have k0 := (P0.out.hb.cell (p := ⟨b, i, none⟩) hlt).trans h0
 have H0 := Zz.mk h0
 obtain ⟨B2, d2, B3, d3, rfl, m2, e2, m3, e3⟩ := k25_open hP
 have hn1 : (0 : Int) < (n : Int) := by omega
 clear hP e2 m2 e3 m3 hV h0
 generalize hm : numS s0 = m at *
 have hn3 : (1 : Int) < (n : Int) := by omega
 clear hm h1
 generalize numS s1 = m2 at *
 go_enter Tryz.func40, Tryz.ntmps40
 go_wp2_with fail
 refine (cD.out _).mono ?_
 rintro e v ⟨rfl, hb⟩
 replace P0 := Zz.mk (P0.out.next hb)
 replace X0 := Zz.mk (X0.out.next hb)
 replace S0 := Zz.mk (S0.out.next hb)
 replace HV := Zz.mk (HV.out.below hb)
 clear hb cD k0
 have q := blk_cell X0.out.row 8
 have z := blk_free X0.out.row 8
 have HX : Zz ((v.setCell ⟨w.heap.size + 1, 8, none⟩ (.int .u64 (m.1))).heap[w.heap.size + 1]? = some (.cells #[.int .i64 x.f0, .int .i64 x.f1, .int .i64 x.f2, .int .i64 x.f3, u4, .int .u32 x.f5, .int .u32 x.f6, .int .u32 x.f7, .int .u64 (m.1), .int .u64 x.f8.f1, .int .i64 x.f9, u11, u12] 34)) := ⟨blk_set X0.out.row 8 (.int .u64 (m.1))⟩
 have HS := Zz.mk (ExtQ.row_step S0.out.row (ExtQ.setCell_grown v (w.heap.size + 1) 8 (.int .u64 (m.1))) (by omega))
 have HB := Zz.mk (P0.out.hb.setCell (p := ⟨w.heap.size + 1, 8, none⟩) (by show _ <= w.heap.size + 1; omega) (.int .u64 (m.1)))
 have HV2 := Zz.mk (HV.out.set X0.out.row 8 (.int .u64 (m.1)))
 have k2 := (HB.out.cell (p := ⟨b, i + 1, none⟩) hlt2).trans H1.out
 go_wp2_with fail
 refine (cE.out _).mono ?_
 rintro e v2 ⟨rfl, hb⟩
 have HX8 := Zz.mk (krow HX.out hb)
 have HS8 := Zz.mk (krow HS.out hb)
 have HB8 := Zz.mk (HB.out.trans (hb.mono HB.out.size))
 have HV8 := Zz.mk (HV2.out.below hb)
 clear hb cE k2 q z HX HS HB HV2
 have q := blk_cell HX8.out 9
 have z := blk_free HX8.out 9
 have HX : Zz ((v2.setCell ⟨w.heap.size + 1, 9, none⟩ (.int .u64 (m2.1))).heap[w.heap.size + 1]? = some (.cells #[.int .i64 x.f0, .int .i64 x.f1, .int .i64 x.f2, .int .i64 x.f3, u4, .int .u32 x.f5, .int .u32 x.f6, .int .u32 x.f7, .int .u64 (m.1), .int .u64 (m2.1), .int .i64 x.f9, u11, u12] 34)) := ⟨blk_set HX8.out 9 (.int .u64 (m2.1))⟩
 have HS := Zz.mk (ExtQ.row_step HS8.out (ExtQ.setCell_grown v2 (w.heap.size + 1) 9 (.int .u64 (m2.1))) (by omega))
 have HB := Zz.mk (HB8.out.setCell (p := ⟨w.heap.size + 1, 9, none⟩) (by show _ <= w.heap.size + 1; omega) (.int .u64 (m2.1)))
 have HV2 := Zz.mk (HV8.out.set HX8.out 9 (.int .u64 (m2.1)))
 obtain ⟨q0, q1, q2, q3, q4, q5, q6, q7, q8, q9, q10, q11, q12⟩ := cls13 HX.out
 go_wp2_with (first
  | (refine wpList_store_row rfl 34 (.tmp 8) (.tmp 143) rfl (w.heap.size + 1 + 1) #[.int .i64 x.f0, .int .i64 x.f1, .int .i64 x.f2, .int .i64 x.f3, u4, .int .u32 x.f5, .int .u32 x.f6, .int .u32 x.f7, .int .u64 (m.1), .int .u64 (m2.1), .int .i64 x.f9, u11, u12] rfl rfl 34 _ HS.out actC_info2 rfl (cells_one { x with f8 := ⟨m.1, m2.1⟩ } _ _ _ HV8.out.ones) ?_)
  | fail)
 refine bodyPost_ret (v := .agg #[.int .i64 x.f0, .int .i64 x.f1, .int .i64 x.f2, .int .i64 x.f3, u4, .int .u32 x.f5, .int .u32 x.f6, .int .u32 x.f7, .int .u64 (m.1), .int .u64 (m2.1), .int .i64 x.f9, u11, u12]) (results_cell1 Tryz.results40 _ _ _ (w.heap.size + 1 + 1) rfl _ (run_loadVar_row _ (w.heap.size + 1 + 1) 34 34 _ (0, 0) _ (setRow_heap _ _ _ _ _ _ HS.out) Tryz.underlying34 rfl actC_info2)) rfl ?_
 exact ⟨_, _, _, rfl, ⟨(HV2.out.setR HS.out _).h4, (HV2.out.setR HS.out _).h11, (HV2.out.setR HS.out _).h12, HV2.out.nl⟩, below_setRow HB.out (by omega) _⟩
theorem words_tail2 (g i n c : Nat) (hc : n + 1 <= c) : ∀ W, (Instr.slice 22 (.slice (some ⟨g, i, none⟩) (n + 1) c) (some (.int .i64 1)) none none).run Tryz.prog W = .ok (.slice (some (if c = 1 then ⟨g, i, none⟩ else ⟨g, i + 1, none⟩)) n (c - 1)) W := by
 intro W
 rw [run_slice_l (P := Tryz.prog) (w := W) 22 (some ⟨g, i, none⟩) (n + 1) c (by kernel_rfl) .i64 1 (by omega) (by omega)]
 have hz : ∀ W, (sizeOf (Tryz.prog.elem 22)).run Tryz.prog W = .ok 1 W := by intro W; kernel_rfl
 rw [hz]
 simp only [Result.andThen, sliced]
 by_cases h : c = 1
 · subst h
   simp
 · have h2 : ¬ (c : Int) = 1 := by omega
   simp [h, h2, Addr.add]
theorem words_left2 (W : World) (g i c : Nat) (q : ByteArray) (tl : List ByteArray) (hc : tl.length + 1 <= c) (h : ExtQ.StrAt W (some ⟨g, i, none⟩) (q :: tl)) : ExtQ.StrAt W (some (if c = 1 then ⟨g, i, none⟩ else ⟨g, i + 1, none⟩)) tl := by
 by_cases h1 : c = 1
 · rw [if_pos h1]
   exact ⟨fun hl => by omega⟩
 · rw [if_neg h1]
   exact h.tail
theorem read_s_h (p : Plan) (cp : List Value) (x : Act) (u4 u11 u12 : Value) (b i : Nat) (s0 : ByteArray) (tl : List ByteArray) (c : Nat) (b0 : Nat) (w : World) (hP : k25.K w p cp) (hV : ActV b0 w x u4 u11 u12) (hst : ExtQ.StrAt w (some ⟨b, i, none⟩) (s0 :: tl)) (hc : tl.length + 1 <= c) (hl : tl.length <= 1073741824) (hb0 : b0 <= w.heap.size) (hz : s0.size <= 134217728) (hzt : ∀ s ∈ tl, s.size <= 134217728) (hx : s0 ≠ xmssB) :
 Calls Tryz.prog 40 #[.agg cp.toArray, .agg #[.int .i64 x.f0, .int .i64 x.f1, .int .i64 x.f2, .int .i64 x.f3, u4, .int .u32 x.f5, .int .u32 x.f6, .int .u32 x.f7, .int .u64 x.f8.f0, .int .u64 x.f8.f1, .int .i64 x.f9, u11, u12], .int .i32 115, .slice (some ⟨b, i, none⟩) (tl.length + 1) c] w (ReadP b0 w ({ x with f3 := 1, f4 := tl.map lvR })) := by
 have h0 := hst.head
 have n := tl.length + 1
 have hn : 1 <= tl.length + 1 := by omega
 have wt := words_tail2 b i tl.length c hc
 have HSA := Zz.mk (words_left2 w b i c s0 tl hc hst)
 obtain ⟨G, hG⟩ : ∃ G : Addr, (if c = 1 then ⟨b, i, none⟩ else ⟨b, i + 1, none⟩) = G := ⟨_, rfl⟩
 rw [hG] at wt HSA
 clear hG
 have cV := Lib.hid (fun W (hW : Below w.heap.size w W) => r_levels (some G) (c - 1) tl W (strAt_C (HSA.out.below hW) hl) (by omega) hl (fun j => (show _ <= 1099511627776 from by
  rw [List.getD_eq_getElem?_getD]
  cases hj : tl[j]? with
  | none => exact Nat.zero_le _
  | some s => exact Nat.le_trans (hzt s (List.mem_of_getElem? hj)) (by omega))))
 obtain ⟨P0, X0, S0, HV⟩ := rd_pre cp hV
 have cD := Lib.hid (fun W => digits_walk s0 W (by omega))
 have hlt := World.block_lt_of_cell? w _ h0
 have k0 := (P0.out.hb.cell (p := ⟨b, i, none⟩) hlt).trans h0
 have H0 := Zz.mk h0
 obtain ⟨B2, d2, B3, d3, rfl, m2, e2, m3, e3⟩ := k25_open hP
 have hn1 : (0 : Int) < ((tl.length : Int) + 1) := by omega
 clear hP e2 m2 e3 m3 hV h0
 generalize hm : numS s0 = m at *
 have tb : (s0.toList == [120, 109, 115, 115]) = false := beq_eq_false_iff_ne.2 (fun e => hx (Go.WideShapes.bytes_inj (by rw [ByteArray.toList_eq] at e; exact e)))
 clear hm hst hzt
 go_enter Tryz.func40, Tryz.ntmps40
 go_wp2_with fail
 refine (cD.out _).mono ?_
 rintro e v ⟨rfl, hb⟩
 replace P0 := Zz.mk (P0.out.next hb)
 replace X0 := Zz.mk (X0.out.next hb)
 replace S0 := Zz.mk (S0.out.next hb)
 replace HV := Zz.mk (HV.out.below hb)
 clear hb cD k0
 have q := blk_cell X0.out.row 3
 have z := blk_free X0.out.row 3
 have HX : Zz ((v.setCell ⟨w.heap.size + 1, 3, none⟩ (.int .i64 (1))).heap[w.heap.size + 1]? = some (.cells #[.int .i64 x.f0, .int .i64 x.f1, .int .i64 x.f2, .int .i64 1, u4, .int .u32 x.f5, .int .u32 x.f6, .int .u32 x.f7, .int .u64 x.f8.f0, .int .u64 x.f8.f1, .int .i64 x.f9, u11, u12] 34)) := ⟨blk_set X0.out.row 3 (.int .i64 (1))⟩
 have HS := Zz.mk (ExtQ.row_step S0.out.row (ExtQ.setCell_grown v (w.heap.size + 1) 3 (.int .i64 (1))) (by omega))
 have HB := Zz.mk (P0.out.hb.setCell (p := ⟨w.heap.size + 1, 3, none⟩) (by show _ <= w.heap.size + 1; omega) (.int .i64 (1)))
 have HV2 := Zz.mk (HV.out.set X0.out.row 3 (.int .i64 (1)))
 have HX3 := HX
 have HS3 := HS
 have HB3 := HB
 have HV3 := HV2
 clear HX HS HB HV2
 go_wp2_with fail
 refine (cV.out _ HB3.out).mono ?_
 rintro e v1 ⟨⟨u, rfl, hR⟩, hb⟩
 have HX4 := Zz.mk (krow HX3.out hb)
 have HS4 := Zz.mk (krow HS3.out hb)
 have HB4 := Zz.mk (HB3.out.trans (hb.mono HB3.out.size))
 have HV4 := Zz.mk (HV3.out.below hb)
 have HH := Zz.mk ((Held.of hR).lower (show b0 <= _ from Nat.le_trans hb0 HB3.out.size))
 obtain ⟨A4, c4, rfl, -, -⟩ := Kd.R_reads hR
 clear hR
 generalize (tl.map lvR).length = N at *
 have k1 := (HB4.out.cell (p := ⟨b, i, none⟩) hlt).trans H0.out
 clear hb cV HX3 HS3 HB3 HV3 q z
 have q := blk_cell HX4.out 4
 have z := blk_free HX4.out 4
 have HX : Zz ((v1.setCell ⟨w.heap.size + 1, 4, none⟩ (.slice A4 N c4)).heap[w.heap.size + 1]? = some (.cells #[.int .i64 x.f0, .int .i64 x.f1, .int .i64 x.f2, .int .i64 1, (.slice A4 N c4), .int .u32 x.f5, .int .u32 x.f6, .int .u32 x.f7, .int .u64 x.f8.f0, .int .u64 x.f8.f1, .int .i64 x.f9, u11, u12] 34)) := ⟨blk_set HX4.out 4 (.slice A4 N c4)⟩
 have HS := Zz.mk (ExtQ.row_step HS4.out (ExtQ.setCell_grown v1 (w.heap.size + 1) 4 (.slice A4 N c4)) (by omega))
 have HB := Zz.mk (HB4.out.setCell (p := ⟨w.heap.size + 1, 4, none⟩) (by show _ <= w.heap.size + 1; omega) (.slice A4 N c4))
 have HV2 := Zz.mk (HV4.out.set HX4.out 4 (.slice A4 N c4))
 have k2 : (v1.setCell ⟨w.heap.size + 1, 4, none⟩ (.slice A4 N c4)).cell? ⟨b, i, none⟩ = some (.string s0) := (HB.out.cell (p := ⟨b, i, none⟩) hlt).trans H0.out
 have HH2 := Zz.mk (HH.out.step flat_lv (ExtQ.setCell_grown v1 (w.heap.size + 1) 4 (.slice A4 N c4)) (fun k hk cells fr he => (by cases hk; rw [HX4.out] at he; cases he)))
 obtain ⟨q0, q1, q2, q3, q4, q5, q6, q7, q8, q9, q10, q11, q12⟩ := cls13 HX.out
 go_wp2_with (first
  | (refine wpList_store_row rfl 34 (.tmp 8) (.tmp 143) rfl (w.heap.size + 1 + 1) #[.int .i64 x.f0, .int .i64 x.f1, .int .i64 x.f2, .int .i64 1, (.slice A4 N c4), .int .u32 x.f5, .int .u32 x.f6, .int .u32 x.f7, .int .u64 x.f8.f0, .int .u64 x.f8.f1, .int .i64 x.f9, u11, u12] rfl rfl 34 _ HS.out actC_info2 rfl (cells_one { x with f3 := 1 } _ _ _ ⟨rfl, HV4.out.ones.2.1, HV4.out.ones.2.2⟩) ?_)
  | fail)
 refine bodyPost_ret (v := .agg #[.int .i64 x.f0, .int .i64 x.f1, .int .i64 x.f2, .int .i64 1, (.slice A4 N c4), .int .u32 x.f5, .int .u32 x.f6, .int .u32 x.f7, .int .u64 x.f8.f0, .int .u64 x.f8.f1, .int .i64 x.f9, u11, u12]) (results_cell1 Tryz.results40 _ _ _ (w.heap.size + 1 + 1) rfl _ (run_loadVar_row _ (w.heap.size + 1 + 1) 34 34 _ (0, 0) _ (setRow_heap _ _ _ _ _ _ HS.out) Tryz.underlying34 rfl actC_info2)) rfl ?_
 exact ⟨_, _, _, rfl, ⟨HH2.out.step flat_lv (setRow_grown _ _ _) (fun k hk cells fr he => (by cases hk; rw [HS.out] at he; cases he)), (HV2.out.setR HS.out _).h11, (HV2.out.setR HS.out _).h12, HV2.out.nl⟩, below_setRow HB.out (by omega) _⟩
end Go.Proofs.YtpdinahdcedmkaaGreatDoor.Ext
