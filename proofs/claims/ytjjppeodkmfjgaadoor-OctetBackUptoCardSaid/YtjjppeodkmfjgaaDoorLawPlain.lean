/- liverylaw01.OctetPlain: true. -/
import Derived.Test.YtjjppeodkmfjgaaDoorHexes
import Derived.Test.YtjjppeodkmfjgaaDoorLabel
namespace Go.Proofs.YtjjppeodkmfjgaaDoor.Ext
set_option linter.unusedVariables false
open Go.RowKit Go.Proofs.YtjjppeodkmfjgaaDoorW.PrintWords Go.Proofs.YtjjppeodkmfjgaaDoorW.PrintLast Go.Proofs.YtjjppeodkmfjgaaDoorW.PrintMore

theorem bytesOf_append (a b : ByteArray) : bytesOf (a ++ b) = bytesOf a ++ bytesOf b := by simp [bytesOf, ByteArray.data_append]
theorem extract_split (s : ByteArray) (i j : Nat) (h : i ≤ j) (hj : j ≤ s.size) : s.extract i j ++ s.extract j s.size = s.extract i s.size := by
  rw [ByteArray.extract_append_extract, Nat.min_eq_left h, Nat.max_eq_right hj]
theorem quoteF_good (s : ByteArray) : ∀ (f pos : Nat), s.size ≤ pos + f → goodL (rns s f pos) = true → quoteF s (rns s f pos) = bytesOf (s.extract pos s.size)
  | f, pos, hf, hg => by
    by_cases h : pos < s.size
    · have hw := Lib.decode_width_pos s pos h
      have hwl := width_le' s pos h
      obtain ⟨f', rfl⟩ : ∃ f', f = f' + 1 := ⟨f - 1, by omega⟩
      simp only [rns, if_pos h] at hg ⊢
      simp only [goodL, List.all_cons, Bool.and_eq_true, decide_eq_true_eq] at hg
      have ih := quoteF_good s f' (pos + (Utf8.decode s pos).2) (by omega) hg.2
      have hb := hg.1
      unfold badR at hb
      unfold quoteF at ih ⊢
      rw [List.flatMap_cons, ih]
      have e : quoteP s (pos, (Utf8.decode s pos).1, (Utf8.decode s pos).2) = bytesOf (s.extract pos (pos + (Utf8.decode s pos).2)) := by
        unfold quoteP
        simp only
        rw [if_neg (by omega), if_neg (by omega)]
      rw [e, ← bytesOf_append, extract_split s _ _ (by omega) hwl]
    · rw [rns_end s f pos h]
      have : (s.extract pos s.size).size = 0 := by rw [ByteArray.size_extract]; omega
      have e : s.extract pos s.size = ByteArray.empty := by
        apply ByteArray.ext
        apply Array.eq_empty_of_size_eq_zero
        exact this
      rw [e]
      rfl
theorem strOfNums_bytesOf (s : ByteArray) : strOfNums (bytesOf s) = s := by
  apply ByteArray.ext
  rw [← Array.toList_inj, strOfNums_data]
  rw [bytesOf, List.map_map]
  conv => rhs; rw [← List.map_id s.data.toList]
  apply List.map_congr_left
  intro b _
  simp
theorem quote_good (s : ByteArray) (hg : goodL (runesOf s) = true) : quoteS s = (⟨#[34]⟩ ++ s) ++ ⟨#[34]⟩ := by
  unfold quoteS
  unfold runesOf at hg ⊢
  rw [quoteF_good s s.size 0 (by omega) hg]
  rw [strOfNums_append, strOfNums_append]
  rw [show s.extract 0 s.size = s by simp]
  rw [strOfNums_bytesOf]
  rfl
theorem run_runes1 (n : Int) (W : World) : (convert 35 9 (.slice (some ⟨W.heap.size, 0, none⟩) 1 1)).run Tryd.prog (W.alloc (.cells #[.int .i32 n] 21)) = .ok (.string (Utf8.encode n)) (W.alloc (.cells #[.int .i32 n] 21)) := by
  have h := run_convert_runes (P := Tryd.prog) (W.alloc (.cells #[.int .i32 n] 21)) 35 9 21 ⟨W.heap.size, 0, none⟩ 1 1 [n] (by simp) (by kernel_rfl) (by kernel_rfl) (by kernel_rfl) (fun j hj => by
    obtain rfl : j = 0 := by simp at hj; omega
    simp [Addr.add])
  rw [h]
  have : runesBytes ([n].take 1) = Utf8.encode n := by
    simp [runesBytes]
  rw [this]
set_option maxHeartbeats 4000000 in
set_option maxRecDepth 100000 in
theorem law_Plain (s : ByteArray) (m : Int) (w : World) (hT : Lib.Utf8Tabs 0 1 w) (hs : s.size ≤ 1048576) :
    Calls Tryd.prog 5 #[.string s, .int .i32 m] w fun e w' => e = .returned (.bool true) ∧ Below w.heap.size w w' := by
  have CL := Lib.hid live_walk
  have HT := Lib.hid hT
  have HB := Aside0.mk (Below.refl w.heap.size w)
  have c1 := Lib.hid (fun W => label_walk s W (by omega))
  by_cases hl : labelS s = true
  · have hlp := hl
    unfold labelS at hlp
    simp only [Bool.and_eq_true, decide_eq_true_eq] at hlp
    have hl2 := label_blank s hl
    obtain ⟨hl3, hl4⟩ := label_more s m hl
    have hes := encode_size_le m
    have C2 := fun W => label_walk (s ++ ⟨#[32]⟩) W (by rw [ByteArray.size_append]; have : (⟨#[32]⟩ : ByteArray).size = 1 := rfl; omega)
    have C3 := fun W => label_walk (s ++ Utf8.encode m) W (by rw [ByteArray.size_append]; omega)
    have C4 := fun W => runes_walk s W (by unfold maxLen; omega)
    have C5 := fun W => runes_walk (s ++ Utf8.encode m) W (by unfold maxLen; rw [ByteArray.size_append]; omega)
    have C6 := fun W hT => quote_walk s W (by omega) hT
    rw [quote_good s hlp.1] at C6
    rw [hl3] at C5
    rw [hl2] at C2
    have C1 := c1.out
    rw [hl] at C1
    have k1 := hlp.2.1
    have k2 := hlp.2.2
    generalize (runesOf s).length = N at *
    generalize labelS (s ++ Utf8.encode m) = b at *
    have hrun := run_runes1 m
    generalize Utf8.encode m = E at *
    have c1 := Lib.hid C1
    have c2 := Lib.hid C2
    have c3 := Lib.hid C3
    have c4 := Lib.hid C4
    have c5 := Lib.hid C5
    have c6 := Lib.hid C6
    clear C1 C2 C3 C4 C5 C6 hl hlp hl2 hl3 hT
    have t1 : (1 : Int) ≤ (N : Int) := by omega
    have t2 : (N : Int) ≤ 24 := by omega
    by_cases hN : N < 24
    · have t3 : (N : Int) < 24 := by omega
      clear hN k1 k2 hl4
      go_enter Tryd.func5, Tryd.ntmps5
      go_wp2_with (first
      | (go_at_call 13
         refine (CL.out _ (Utf8Tabs_below HT.out HB.out)).mono ?_
         rintro e v ⟨rfl, hb⟩
         replace HB := Aside0.mk (HB.out.trans (hb.mono HB.out.size))
         clear hb)
      | (go_at_call 21
         with_reducible refine (c1.out _).mono ?_
         rintro e v ⟨rfl, hb⟩
         replace HB := Aside0.mk (HB.out.trans (hb.mono HB.out.size))
         clear hb)
      | (go_at_call 22
         refine (c6.out _ (Utf8Tabs_below HT.out (HB.out.alloc HB.out.size _))).mono ?_
         rintro e v ⟨rfl, hb⟩
         replace HB := Aside0.mk ((HB.out.alloc HB.out.size (.cells #[.int .i32 m] 21)).trans (hb.mono (by have := HB.out.size; simp; omega)))
         clear hb)
      | (go_at_call 23
         with_reducible refine (c4.out _).mono ?_
         rintro e v ⟨rfl, hb⟩
         replace HB := Aside0.mk (HB.out.trans (hb.mono HB.out.size))
         clear hb)
      | (go_at_call 23
         with_reducible refine (c5.out _).mono ?_
         rintro e v ⟨rfl, hb⟩
         replace HB := Aside0.mk (HB.out.trans (hb.mono HB.out.size))
         clear hb)
      | (go_at_call 21
         with_reducible refine (c2.out _).mono ?_
         rintro e v ⟨rfl, hb⟩
         replace HB := Aside0.mk (HB.out.trans (hb.mono HB.out.size))
         clear hb)
      | (go_at_call 21
         with_reducible refine (c3.out _).mono ?_
         rintro e v ⟨rfl, hb⟩
         replace HB := Aside0.mk (HB.out.trans (hb.mono HB.out.size))
         clear hb)
      | fail)
      go_ret
      exact ⟨rfl, HB.out⟩
    · obtain rfl : b = false := by rcases hl4 with h | h; exact absurd h hN; exact h
      have t3 : ¬ (N : Int) < 24 := by omega
      clear hN k1 k2 hl4
      go_enter Tryd.func5, Tryd.ntmps5
      go_wp2_with (first
      | (go_at_call 13
         refine (CL.out _ (Utf8Tabs_below HT.out HB.out)).mono ?_
         rintro e v ⟨rfl, hb⟩
         replace HB := Aside0.mk (HB.out.trans (hb.mono HB.out.size))
         clear hb)
      | (go_at_call 21
         with_reducible refine (c1.out _).mono ?_
         rintro e v ⟨rfl, hb⟩
         replace HB := Aside0.mk (HB.out.trans (hb.mono HB.out.size))
         clear hb)
      | (go_at_call 22
         refine (c6.out _ (Utf8Tabs_below HT.out (HB.out.alloc HB.out.size _))).mono ?_
         rintro e v ⟨rfl, hb⟩
         replace HB := Aside0.mk ((HB.out.alloc HB.out.size (.cells #[.int .i32 m] 21)).trans (hb.mono (by have := HB.out.size; simp; omega)))
         clear hb)
      | (go_at_call 23
         with_reducible refine (c4.out _).mono ?_
         rintro e v ⟨rfl, hb⟩
         replace HB := Aside0.mk (HB.out.trans (hb.mono HB.out.size))
         clear hb)
      | (go_at_call 23
         with_reducible refine (c5.out _).mono ?_
         rintro e v ⟨rfl, hb⟩
         replace HB := Aside0.mk (HB.out.trans (hb.mono HB.out.size))
         clear hb)
      | (go_at_call 21
         with_reducible refine (c2.out _).mono ?_
         rintro e v ⟨rfl, hb⟩
         replace HB := Aside0.mk (HB.out.trans (hb.mono HB.out.size))
         clear hb)
      | (go_at_call 21
         with_reducible refine (c3.out _).mono ?_
         rintro e v ⟨rfl, hb⟩
         replace HB := Aside0.mk (HB.out.trans (hb.mono HB.out.size))
         clear hb)
      | fail)
      go_ret
      exact ⟨rfl, HB.out⟩
  · have hlf : labelS s = false := by simpa using hl
    have C1 := c1.out
    rw [hlf] at C1
    have c1 := Lib.hid C1
    clear C1 hl hlf hT
    go_enter Tryd.func5, Tryd.ntmps5
    go_wp2_with (first
      | (go_at_call 13
         refine (CL.out _ (Utf8Tabs_below HT.out HB.out)).mono ?_
         rintro e v ⟨rfl, hb⟩
         replace HB := Aside0.mk (HB.out.trans (hb.mono HB.out.size))
         clear hb)
      | (go_at_call 21
         with_reducible refine (c1.out _).mono ?_
         rintro e v ⟨rfl, hb⟩
         replace HB := Aside0.mk (HB.out.trans (hb.mono HB.out.size))
         clear hb)
      | fail)
    go_ret
    exact ⟨rfl, HB.out⟩
end Go.Proofs.YtjjppeodkmfjgaaDoor.Ext
