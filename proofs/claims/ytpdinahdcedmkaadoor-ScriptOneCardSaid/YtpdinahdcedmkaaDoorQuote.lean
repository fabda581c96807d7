import Derived.Test.YtpdinahdcedmkaaDoorMDec
import Derived.Test.YtpdinahdcedmkaaDoorShelf
import Derived.Lib.TrimUEq
import Derived.StillTailTactics
import Derived.WalkSmall
import Derived.Shelf.Unicode.DecodeLastEight
/- octet.Quote: the text in quotes, for any text of at most 2^44 bytes. -/
namespace Go.Proofs.YtpdinahdcedmkaaDoor.Ext
set_option linter.unusedVariables false
open Go.RowKit Go.Proofs.YtpdinahdcedmkaaDoorW.PrintWords Go.Proofs.YtpdinahdcedmkaaDoorW.PrintLast Go.Proofs.YtpdinahdcedmkaaDoorW.PrintMore

/-- a digit's byte -/
def hexd (n : Int) : Int := if n < 10 then 48 + n else 87 + n
theorem idx_hex (x : Int) (k : IntKind) (h0 : 0 ≤ x) (h1 : x < 16) : ∀ W, (Instr.index 9 (.string ⟨#[48, 49, 50, 51, 52, 53, 54, 55, 56, 57, 97, 98, 99, 100, 101, 102]⟩) (.int k x)).run Tryd.prog W = .ok (.int .u8 (hexd x)) W := by
  intro W
  rw [run_index_string W 9 _ k x Tryd.underlying9]
  obtain rfl | rfl | rfl | rfl | rfl | rfl | rfl | rfl | rfl | rfl | rfl | rfl | rfl | rfl | rfl | rfl : x = 0 ∨ x = 1 ∨ x = 2 ∨ x = 3 ∨ x = 4 ∨ x = 5 ∨ x = 6 ∨ x = 7 ∨ x = 8 ∨ x = 9 ∨ x = 10 ∨ x = 11 ∨ x = 12 ∨ x = 13 ∨ x = 14 ∨ x = 15 := by omega
  all_goals rfl
theorem idx_str (s : ByteArray) (pos : Nat) (h : pos < s.size) : ∀ W, (Instr.index 9 (.string s) (.int .i64 (pos : Int))).run Tryd.prog W = .ok (.int .u8 (bt s pos)) W := by
  intro W
  rw [run_index_string W 9 s .i64 (pos : Int) Tryd.underlying9]
  simp [h, bt]
theorem bits15 (b : Int) (h0 : 0 ≤ b) (h1 : b ≤ 255) : Go.bits .and .u8 b 15 = b % 16 := by
  obtain ⟨n, rfl⟩ := Int.eq_ofNat_of_zero_le h0
  have : ∀ n : Fin 256, Go.bits .and .u8 ((n.val : Nat) : Int) 15 = ((n.val : Nat) : Int) % 16 := by decide +kernel
  exact this ⟨n, by omega⟩
/-- one rune's piece -/
def quoteP (s : ByteArray) (x : Nat × Nat × Nat) : List Int :=
  if x.2.1 = 34 ∨ x.2.1 = 92 then [92, (x.2.1 : Int)]
  else if x.2.1 < 32 ∨ x.2.1 = 127 ∨ (x.2.1 = 65533 ∧ x.2.2 = 1) then [92, 120, hexd (bt s x.1 / 16), hexd (bt s x.1 % 16)]
  else bytesOf (s.extract x.1 (x.1 + x.2.2))
def quoteF (s : ByteArray) (l : List (Nat × Nat × Nat)) : List Int := l.flatMap (quoteP s)
def quoteS (s : ByteArray) : ByteArray := strOfNums ([34] ++ quoteF s (runesOf s) ++ [34])

theorem decodeGo_at (s : ByteArray) (pos : Nat) (h : pos < s.size) : Lib.decodeGo (s.extract pos s.size) = Utf8.decode s pos := by
  unfold Lib.decodeGo
  rw [if_neg (by rw [ByteArray.size_extract]; omega), ← Lib.decodeL_drop s pos]
  unfold Lib.decodeL
  have : (s.extract pos s.size) = ⟨(s.data.toList.drop pos).toArray⟩ := by
    have h1 := Lib.extract_to_end s pos
    apply ByteArray.ext
    rw [← Array.toList_inj, h1]
  rw [this]
theorem width_le (s : ByteArray) (pos : Nat) (h : pos < s.size) : pos + (Utf8.decode s pos).2 ≤ s.size ∧ (Utf8.decode s pos).2 ≤ 4 := by
  have h1 := Lib.decodeGo_le_size (s.extract pos s.size)
  have h2 := Lib.decodeGo_le4 (s.extract pos s.size)
  rw [decodeGo_at s pos h] at h1 h2
  rw [ByteArray.size_extract] at h1
  omega
theorem quoteP_len (s : ByteArray) (pos : Nat) (h : pos < s.size) : (quoteP s (pos, (Utf8.decode s pos).1, (Utf8.decode s pos).2)).length ≤ 4 * (Utf8.decode s pos).2 := by
  have hw := Lib.decode_width_pos s pos h
  have hl := width_le s pos h
  unfold quoteP
  split
  · simp; omega
  · split
    · simp; omega
    · simp only [bytesOf, List.length_map, Array.length_toList]
      have : (s.extract pos (pos + (Utf8.decode s pos).2)).data.size = (Utf8.decode s pos).2 := by
        show (s.extract pos (pos + (Utf8.decode s pos).2)).size = _
        rw [ByteArray.size_extract]; omega
      omega
theorem iter_grown {w w' : World} {v : Value} {k : Nat} {s : ByteArray} {pos base n : Nat} {e : TypeId} {size : Nat} {xs : List Value} (hown : w.ownsRow base e size v n xs) (hg : w.grownBy w' v.ownBlock) (hit : w.heap[k]? = some (.stringIter s pos)) : w'.heap[k]? = some (.stringIter s pos) := by
  have hlt : k < w.heap.size := (Array.getElem?_eq_some_iff.1 hit).1
  refine (hg.block k hlt ?_).trans hit
  intro hk
  obtain ⟨cells, hc⟩ := own_typed hown k hk.symm
  rw [hit] at hc
  cases hc
theorem row_below {w w' : World} {base : Nat} {e : TypeId} {size : Nat} {v : Value} {n : Nat} {xs : List Value} (h : w.ownsRow base e size v n xs) (hb : Below w.heap.size w w') : w'.ownsRow base e size v n xs :=
  h.kept (grown_of_below hb none) (Classical.em _)
theorem row_iterAt {w : World} {base : Nat} {e : TypeId} {size : Nat} {v : Value} {n : Nat} {xs : List Value} (h : w.ownsRow base e size v n xs) {k : Nat} {s : ByteArray} {pos : Nat} (hk : w.heap[k]? = some (.stringIter s pos)) (p : Nat) : (w.iterAt k s p).ownsRow base e size v n xs := by
  have hg : w.grownBy (w.iterAt k s p) (some k) := ⟨rfl, rfl, rfl, by rw [Lib.iterAt_size]; exact Nat.le_refl _, fun i hi hne => Lib.iterAt_other w k i s p (fun e => hne (by rw [e]))⟩
  refine h.kept hg (.inr ?_)
  intro hv
  obtain ⟨cells, hc⟩ := own_typed h k hv
  rw [hk] at hc
  cases hc
theorem iter_alloc {w : World} {k pos : Nat} {s : ByteArray} (h : w.heap[k]? = some (.stringIter s pos)) (o : Obj) : (w.alloc o).heap[k]? = some (.stringIter s pos) :=
  (Below.heap_alloc w o k (Array.getElem?_eq_some_iff.1 h).1).trans h
theorem nums_append (k : IntKind) (a b : List Int) : nums k (a ++ b) = nums k a ++ nums k b := by simp [nums]
theorem strCells_nums (s : ByteArray) : Lib.strCells s = nums .u8 (bytesOf s) := by
  simp [Lib.strCells, nums, bytesOf]

set_option maxHeartbeats 4000000 in
set_option maxRecDepth 100000 in
theorem quote_walk (s : ByteArray) (w : World) (hs : s.size ≤ 17592186044416) (hT : Lib.Utf8Tabs 0 1 w) :
    Calls Tryd.prog 51 #[.string s] w fun e w' => e = .returned (.string (quoteS s)) ∧ Below w.heap.size w w' := by
  obtain ⟨i0, hi, hz0, hz1, hz2⟩ := info_parts info_u8
  have HT := Lib.hid hT
  clear hT
  go_enter Tryd.func51, Tryd.ntmps51
  go_wp2
  go_loopw [3] (fun v wr => ∃ (pos fuel : Nat) (L : List Int), wr.heap[w.heap.size + 1]? = some (.stringIter s pos) ∧ Aside0 (wr.ownsRow w.heap.size 5 1 v L.length (nums .u8 L)) ∧ Aside0 (L ++ quoteF s (rns s fuel pos) = [34] ++ quoteF s (runesOf s) ∧ s.size ≤ pos + fuel ∧ pos ≤ s.size) ∧ L.length ≤ 1 + 4 * pos ∧ Aside0 (Below w.heap.size w wr)) (fun _ wr => s.size - wr.iterPos (w.heap.size + 1))
  case atStart =>
    refine ⟨0, s.size, [34], ?_, ⟨?_⟩, ⟨by simp [runesOf], by omega, by omega⟩, by simp, ⟨((Below.refl _ _).alloc (Nat.le_refl _) _).alloc (by simp) _⟩⟩
    · have := iter_new (w.alloc (.cells #[.int .u8 34] 5)) s
      simpa using this
    · exact (World.ownsRow_lit (base := w.heap.size) (e := 5) (size := 1) w #[.int .u8 34] 1 (Nat.le_refl _) (by simp [maxLen]) (by simp)).alloc _
  case round =>
    obtain ⟨pos, fuel, L, hit, hO, hR, hL, hB⟩ := hrel
    by_cases hp : pos < s.size
    · have hwl := width_le s pos hp
      have hw1 := Lib.decode_width_pos s pos hp
      have hpl := quoteP_len s pos hp
      obtain ⟨f2, hf2, he2⟩ := rns_step s fuel pos hp hR.out.2.1
      have hnx := fun ty => Lib.run_next_any_at (P := Tryd.prog) wr (w.heap.size + 1) s pos ty hit hp
      have Cd := fun W hT => Tryd.utf8_DecodeRuneInString (s.extract pos s.size) W hT
      rw [decodeGo_at s pos hp] at Cd
      have hd3 := decode_le s pos
      have HI0 := Lib.iterAt_heap wr (w.heap.size + 1) s pos (pos + (Utf8.decode s pos).2) hit
      have HB0 := Lib.below_iterAt hB.out (show w.heap.size ≤ w.heap.size + 1 by omega) s (pos + (Utf8.decode s pos).2)
      have HM0 := iter_less hw1 hit hp
      have HO0 := row_iterAt hO.out hit (pos + (Utf8.decode s pos).2)
      generalize hd : Utf8.decode s pos = d at *
      obtain ⟨r, wd⟩ := d
      simp only at *
      have HD := Lib.hid hd
      have HR2 : Aside0 (L ++ quoteP s (pos, r, wd) ++ quoteF s (rns s f2 (pos + wd)) = [34] ++ quoteF s (runesOf s) ∧ s.size ≤ (pos + wd) + f2 ∧ pos + wd ≤ s.size) := ⟨by have := hR.out.1; rw [he2] at this; simpa [quoteF, List.append_assoc] using this, hf2, hwl.1⟩
      have HHD := Aside0.mk hf2
      have hT1 := Utf8Tabs_below HT.out HB0
      have CdW := Cd _ hT1
      have cd := Lib.hid CdW
      have HBI := Aside0.mk HB0
      have HII := Aside0.mk HI0
      have HMM := Aside0.mk HM0
      have HOO := Aside0.mk HO0
      have hpi : (pos : Int) ≤ s.size := by omega
      have hpi0 : (0 : Int) ≤ pos := by omega
      clear hd he2 hf2 hR Cd HI0 HB0 HM0 HO0 hT1 CdW hO hB HHD
      go_wp2_with (fail)
      refine cd.out.mono ?_
      rintro e v2 ⟨rfl, hb2⟩
      have HI2 := Aside0.mk ((hb2.block (w.heap.size + 1) (Array.getElem?_eq_some_iff.1 HII.out).1).trans HII.out)
      have HO2 := Aside0.mk (row_below HOO.out hb2)
      have HB2 := Aside0.mk (HBI.out.trans (hb2.mono HBI.out.size))
      have HMM2 : Aside0 (s.size - (pos + wd) < s.size - wr.iterPos (w.heap.size + 1)) := ⟨by have := HMM.out; rwa [iterPos_of HII.out] at this⟩
      clear HMM HII HOO HBI hb2 cd HD HT hit
      by_cases h34 : r = 34
      · subst h34
        rw [show quoteP s (pos, 34, wd) = [92, 34] by simp [quoteP]] at HR2
        clear hpl
        go_wp2_with (first
        | (at_builtin
           refine wpList_append_own _ rfl _ _ 39 rfl w.heap.size 5 i0 _ 1 1 Tryd.underlying39 hi hz0 hz1 hz2 rfl (by decide) _ _ _ rfl (HO2.out.alloc _) ⟨v2.heap.size, 0, none⟩ 2 2 [.int .u8 92, .int .u8 34] rfl rfl (World.news_of_block (cs := #[.int .u8 92, .int .u8 34]) (t := 5) (fr := (0, 0)) (heap_alloc_new _ _)) (by simp [Value.oneCell']) (by simp only [maxLen]; omega) (by omega) (by have hz9 := HB2.out.size; simp; omega) ?_
           intro v3 w3 hown3 hg3 hx3
           clear hx3
           have HI3 := Aside0.mk (iter_grown (HO2.out.alloc _) hg3 (iter_alloc HI2.out _))
           have HB3 := Aside0.mk ((HB2.out.alloc HB2.out.size _).grown hg3 (by have hz9 := HB2.out.size; simp; omega) (fun k hk => own_base HO2.out k hk))
           have HO3 := Aside0.mk hown3
           clear hown3 hg3))
        go_roundw
        case rel => exact ⟨pos + wd, f2, L ++ [92, 34], HI3.out, ⟨by simpa [nums] using HO3.out⟩, HR2, by simp; omega, HB3⟩
        case measure => rw [iterPos_of HI3.out]; exact HMM2.out
      · by_cases h92 : r = 92
        · subst h92
          rw [show quoteP s (pos, 92, wd) = [92, 92] by simp [quoteP]] at HR2
          clear hpl h34
          go_wp2_with (first
        | (at_builtin
           refine wpList_append_own _ rfl _ _ 39 rfl w.heap.size 5 i0 _ 1 1 Tryd.underlying39 hi hz0 hz1 hz2 rfl (by decide) _ _ _ rfl (HO2.out.alloc _) ⟨v2.heap.size, 0, none⟩ 2 2 [.int .u8 92, .int .u8 92] rfl rfl (World.news_of_block (cs := #[.int .u8 92, .int .u8 92]) (t := 5) (fr := (0, 0)) (heap_alloc_new _ _)) (by simp [Value.oneCell']) (by simp only [maxLen]; omega) (by omega) (by have hz9 := HB2.out.size; simp; omega) ?_
           intro v3 w3 hown3 hg3 hx3
           clear hx3
           have HI3 := Aside0.mk (iter_grown (HO2.out.alloc _) hg3 (iter_alloc HI2.out _))
           have HB3 := Aside0.mk ((HB2.out.alloc HB2.out.size _).grown hg3 (by have hz9 := HB2.out.size; simp; omega) (fun k hk => own_base HO2.out k hk))
           have HO3 := Aside0.mk hown3
           clear hown3 hg3))
          go_roundw
          case rel => exact ⟨pos + wd, f2, L ++ [92, 92], HI3.out, ⟨by simpa [nums] using HO3.out⟩, HR2, by simp; omega, HB3⟩
          case measure => rw [iterPos_of HI3.out]; exact HMM2.out
        · have t34 : ((r : Int) == 34) = false := beq_eq_false_iff_ne.2 (by omega)
          have t92 : ((r : Int) == 92) = false := beq_eq_false_iff_ne.2 (by omega)
          by_cases h32 : r < 32
          · rw [show quoteP s (pos, r, wd) = [92, 120, hexd (bt s pos / 16), hexd (bt s pos % 16)] by simp [quoteP, h34, h92, h32]] at HR2
            have t32 : (r : Int) < 32 := by omega
            clear h34 h92 h32
            have HPi := Aside0.mk hpi
            have ix1 := idx_str s pos hp
            have hb0 := (bt_range s pos).1
            have hb1 := (bt_range s pos).2
            generalize bt s pos = b at *
            have b15 := bits15 b hb0 hb1
            have ix2 := idx_hex (b / 16) .u8 (by omega) (by omega)
            have ix3 := idx_hex (b % 16) .u8 (by omega) (by omega)
            clear hpl
            go_wp2_with fail
            go_region_held3 (fun W => True) (first | trivial)
              ((refine step_append_lies _ (by rfl) _ _ _ (by rfl) w.heap.size 5 i0 _ 1 1 Tryd.underlying39 hi hz0 hz1 hz2 rfl (by decide) _ _ _ (by rfl) ((HO2.out.alloc _).drew) ⟨v2.heap.size, 0, none⟩ 4 4 [.int .u8 92, .int .u8 120, .int .u8 (hexd (b / 16)), .int .u8 (hexd (b % 16))] (by rfl) (by rfl) (World.news_of_block (cs := #[.int .u8 92, .int .u8 120, .int .u8 (hexd (b / 16)), .int .u8 (hexd (b % 16))]) (t := 5) (fr := (0, 0)) (heap_alloc_new v2 _)) (by simp [Value.oneCell']) (by omega) (by simp only [maxLen]; omega) (by omega) (by have hz9 := HB2.out.size; simp; omega) (v2.heap.size + 1) (by simp) ?_; intro gg3 cap3 w3 hown3 hg3 hat3 hlt3))
            all_goals
              have HI3 := Aside0.mk (iter_grown ((HO2.out.alloc _).drew) hg3 (iter_alloc HI2.out _))
              have HB3 := Aside0.mk ((HB2.out.alloc HB2.out.size _).drew.grown hg3 (by have hz9 := HB2.out.size; simp; omega) (fun k hk => own_base HO2.out k hk))
              have HO3 := Aside0.mk hown3
              clear hown3 hg3 hat3 hlt3
              go_wp2
              go_roundw
              case rel => exact ⟨pos + wd, f2, L ++ [92, 120, hexd (b / 16), hexd (b % 16)], HI3.out, ⟨by simpa [nums] using HO3.out⟩, HR2, by simp; omega, HB3⟩
              case measure => rw [iterPos_of HI3.out]; exact HMM2.out
          · have t32 : ¬ (r : Int) < 32 := by omega
            by_cases h127 : r = 127
            · subst h127
              rw [show quoteP s (pos, 127, wd) = [92, 120, hexd (bt s pos / 16), hexd (bt s pos % 16)] by simp [quoteP]] at HR2
              clear h34 h92 h32 t34 t92 t32
              have HPi := Aside0.mk hpi
              have ix1 := idx_str s pos hp
              have hb0 := (bt_range s pos).1
              have hb1 := (bt_range s pos).2
              generalize bt s pos = b at *
              have b15 := bits15 b hb0 hb1
              have ix2 := idx_hex (b / 16) .u8 (by omega) (by omega)
              have ix3 := idx_hex (b % 16) .u8 (by omega) (by omega)
              clear hpl
              go_wp2_with fail
              go_region_held3 (fun W => True) (first | trivial)
                ((refine step_append_lies _ (by rfl) _ _ _ (by rfl) w.heap.size 5 i0 _ 1 1 Tryd.underlying39 hi hz0 hz1 hz2 rfl (by decide) _ _ _ (by rfl) ((HO2.out.alloc _).drew) ⟨v2.heap.size, 0, none⟩ 4 4 [.int .u8 92, .int .u8 120, .int .u8 (hexd (b / 16)), .int .u8 (hexd (b % 16))] (by rfl) (by rfl) (World.news_of_block (cs := #[.int .u8 92, .int .u8 120, .int .u8 (hexd (b / 16)), .int .u8 (hexd (b % 16))]) (t := 5) (fr := (0, 0)) (heap_alloc_new v2 _)) (by simp [Value.oneCell']) (by omega) (by simp only [maxLen]; omega) (by omega) (by have hz9 := HB2.out.size; simp; omega) (v2.heap.size + 1) (by simp) ?_; intro gg3 cap3 w3 hown3 hg3 hat3 hlt3))
              all_goals
                have HI3 := Aside0.mk (iter_grown ((HO2.out.alloc _).drew) hg3 (iter_alloc HI2.out _))
                have HB3 := Aside0.mk ((HB2.out.alloc HB2.out.size _).drew.grown hg3 (by have hz9 := HB2.out.size; simp; omega) (fun k hk => own_base HO2.out k hk))
                have HO3 := Aside0.mk hown3
                clear hown3 hg3 hat3 hlt3
                go_wp2
                go_roundw
                case rel => exact ⟨pos + wd, f2, L ++ [92, 120, hexd (b / 16), hexd (b % 16)], HI3.out, ⟨by simpa [nums] using HO3.out⟩, HR2, by simp; omega, HB3⟩
                case measure => rw [iterPos_of HI3.out]; exact HMM2.out
            · have t127 : ((r : Int) == 127) = false := beq_eq_false_iff_ne.2 (by omega)
              by_cases hE : r = 65533 ∧ wd = 1
              · obtain ⟨rfl, hw1'⟩ := hE
                obtain rfl : 1 = wd := hw1'.symm
                rw [show quoteP s (pos, 65533, 1) = [92, 120, hexd (bt s pos / 16), hexd (bt s pos % 16)] by simp [quoteP]] at HR2
                clear h34 h92 h32 t34 t92 t32 h127 t127
                have HPi := Aside0.mk hpi
                have ix1 := idx_str s pos hp
                have hb0 := (bt_range s pos).1
                have hb1 := (bt_range s pos).2
                generalize bt s pos = b at *
                have b15 := bits15 b hb0 hb1
                have ix2 := idx_hex (b / 16) .u8 (by omega) (by omega)
                have ix3 := idx_hex (b % 16) .u8 (by omega) (by omega)
                clear hpl
                go_wp2_with fail
                go_region_held3 (fun W => True) (first | trivial)
                  ((refine step_append_lies _ (by rfl) _ _ _ (by rfl) w.heap.size 5 i0 _ 1 1 Tryd.underlying39 hi hz0 hz1 hz2 rfl (by decide) _ _ _ (by rfl) ((HO2.out.alloc _).drew) ⟨v2.heap.size, 0, none⟩ 4 4 [.int .u8 92, .int .u8 120, .int .u8 (hexd (b / 16)), .int .u8 (hexd (b % 16))] (by rfl) (by rfl) (World.news_of_block (cs := #[.int .u8 92, .int .u8 120, .int .u8 (hexd (b / 16)), .int .u8 (hexd (b % 16))]) (t := 5) (fr := (0, 0)) (heap_alloc_new v2 _)) (by simp [Value.oneCell']) (by omega) (by simp only [maxLen]; omega) (by omega) (by have hz9 := HB2.out.size; simp; omega) (v2.heap.size + 1) (by simp) ?_; intro gg3 cap3 w3 hown3 hg3 hat3 hlt3))
                all_goals
                  have HI3 := Aside0.mk (iter_grown ((HO2.out.alloc _).drew) hg3 (iter_alloc HI2.out _))
                  have HB3 := Aside0.mk ((HB2.out.alloc HB2.out.size _).drew.grown hg3 (by have hz9 := HB2.out.size; simp; omega) (fun k hk => own_base HO2.out k hk))
                  have HO3 := Aside0.mk hown3
                  clear hown3 hg3 hat3 hlt3
                  go_wp2
                  go_roundw
                  case rel => exact ⟨pos + 1, f2, L ++ [92, 120, hexd (b / 16), hexd (b % 16)], HI3.out, ⟨by simpa [nums] using HO3.out⟩, HR2, by simp; omega, HB3⟩
                  case measure => rw [iterPos_of HI3.out]; exact HMM2.out
              · have hP : quoteP s (pos, r, wd) = bytesOf (s.extract pos (pos + wd)) := by
                  unfold quoteP
                  rw [if_neg (by simp; omega), if_neg (by simp; omega)]
                rw [hP] at HR2 hpl
                clear hP
                have hsz : (s.extract pos (pos + wd)).size = wd := by rw [ByteArray.size_extract]; omega
                have hlen : (bytesOf (s.extract pos (pos + wd))).length = wd := by unfold bytesOf; rw [List.length_map, Array.length_toList]; exact hsz
                have hSZ := Aside0.mk hsz
                have hLN := Aside0.mk hlen
                have hp1 : (pos : Int) + wd ≤ s.size := by omega
                have hp2 : (pos : Int) ≤ (pos : Int) + wd := by omega
                have hwr : IntKind.i64.wrap ((pos : Int) + wd) = (pos : Int) + wd := IntWalk.i64_in _ (by omega)
                clear hsz hlen hpl
                by_cases hR3 : r = 65533
                · have hW := Lib.hid hR3
                  have tw : ((wd : Int) == 1) = false := beq_eq_false_iff_ne.2 (by omega)
                  have tr : ((r : Int) == 65533) = true := beq_iff_eq.2 (by omega)
                  clear hR3 hE h34 h92 h127 h32
                  go_wp2_with (first
                    | (at_builtin
                       refine Lib.wpList_append_own_string _ rfl _ _ 39 9 rfl w.heap.size 5 i0 Tryd.underlying39 Tryd.underlying9 hi hz0 hz1 hz2 _ _ _ rfl HO2.out (s.extract pos (pos + wd)) (by first | rfl | (simp [Act.eval])) (by rw [hSZ.out]; simp only [maxLen]; omega) (by rw [hSZ.out]; omega) HB2.out.size ?_
                       intro v3 w3 hown3 hg3 hx3
                       clear hx3
                       have HI3 := Aside0.mk (iter_grown HO2.out hg3 HI2.out)
                       have HB3 := Aside0.mk (HB2.out.grown hg3 HB2.out.size (fun k hk => own_base HO2.out k hk))
                       rw [hSZ.out, strCells_nums, ← nums_append] at hown3
                       have HO3 : Aside0 (w3.ownsRow w.heap.size 5 1 v3 (L ++ bytesOf (s.extract pos (pos + wd))).length (nums .u8 (L ++ bytesOf (s.extract pos (pos + wd))))) := ⟨by rw [List.length_append, hLN.out]; exact hown3⟩
                       clear hown3 hg3))
                  go_roundw
                  case rel => exact ⟨pos + wd, f2, L ++ bytesOf (s.extract pos (pos + wd)), HI3.out, HO3, HR2, by rw [List.length_append, hLN.out]; omega, HB3⟩
                  case measure => rw [iterPos_of HI3.out]; exact HMM2.out
                · have tr : ((r : Int) == 65533) = false := beq_eq_false_iff_ne.2 (by omega)
                  clear hR3 hE h34 h92 h127 h32
                  go_wp2_with (first
                    | (at_builtin
                       refine Lib.wpList_append_own_string _ rfl _ _ 39 9 rfl w.heap.size 5 i0 Tryd.underlying39 Tryd.underlying9 hi hz0 hz1 hz2 _ _ _ rfl HO2.out (s.extract pos (pos + wd)) (by first | rfl | (simp [Act.eval])) (by rw [hSZ.out]; simp only [maxLen]; omega) (by rw [hSZ.out]; omega) HB2.out.size ?_
                       intro v3 w3 hown3 hg3 hx3
                       clear hx3
                       have HI3 := Aside0.mk (iter_grown HO2.out hg3 HI2.out)
                       have HB3 := Aside0.mk (HB2.out.grown hg3 HB2.out.size (fun k hk => own_base HO2.out k hk))
                       rw [hSZ.out, strCells_nums, ← nums_append] at hown3
                       have HO3 : Aside0 (w3.ownsRow w.heap.size 5 1 v3 (L ++ bytesOf (s.extract pos (pos + wd))).length (nums .u8 (L ++ bytesOf (s.extract pos (pos + wd))))) := ⟨by rw [List.length_append, hLN.out]; exact hown3⟩
                       clear hown3 hg3))
                  go_roundw
                  case rel => exact ⟨pos + wd, f2, L ++ bytesOf (s.extract pos (pos + wd)), HI3.out, HO3, HR2, by rw [List.length_append, hLN.out]; omega, HB3⟩
                  case measure => rw [iterPos_of HI3.out]; exact HMM2.out
    · have hnx := fun ty => Lib.run_next_end_at (P := Tryd.prog) wr (w.heap.size + 1) s pos ty hit hp
      have hE : Aside0 (L = [34] ++ quoteF s (runesOf s)) := ⟨by have := hR.out.1; rw [rns_end s fuel pos hp] at this; simpa [quoteF] using this⟩
      have HO2 := hO
      have HB2 := hB
      have hL2 : L.length ≤ 70368744177665 := by have := hR.out.2.2; omega
      clear hR hO hB
      go_wp2_with (first
        | (at_builtin
           refine wpList_append_own _ rfl _ _ 39 rfl w.heap.size 5 i0 _ 1 1 Tryd.underlying39 hi hz0 hz1 hz2 rfl (by decide) _ _ _ rfl (HO2.out.alloc _) ⟨wr.heap.size, 0, none⟩ 1 1 [.int .u8 34] rfl rfl (World.news_of_block (cs := #[.int .u8 34]) (t := 5) (fr := (0, 0)) (heap_alloc_new _ _)) (by simp [Value.oneCell']) (by simp only [maxLen]; omega) (by omega) (by have hz9 := HB2.out.size; simp; omega) ?_
           intro v3 w3 hown3 hg3 hx3
           clear hx3
           have HB3 := Aside0.mk ((HB2.out.alloc HB2.out.size _).grown hg3 (by have hz9 := HB2.out.size; simp; omega) (fun k hk => own_base HO2.out k hk))
           have hcv := own_string (P := Tryd.prog) (src := 39) (dst := 9) Tryd.underlying39 Tryd.underlying5 Tryd.underlying9 (show w3.ownsRow w.heap.size 5 1 v3 (L.length + 1) (nums .u8 (L ++ [34])) by simpa [nums] using hown3)
           clear hown3 hg3))
      go_ret
      exact ⟨by rw [hE.out]; rfl, HB3.out⟩
end Go.Proofs.YtpdinahdcedmkaaDoor.Ext

