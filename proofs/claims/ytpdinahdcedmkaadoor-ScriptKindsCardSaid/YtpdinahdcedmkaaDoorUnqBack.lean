/- What octet.Quote has put into quotes octet.Unquote takes out of them. -/
import Derived.Test.YtpdinahdcedmkaaDoorUnquote
namespace Go.Proofs.YtpdinahdcedmkaaDoor.Ext
set_option linter.unusedVariables false
open Go.RowKit Go.Proofs.YtpdinahdcedmkaaDoorW.PrintWords Go.Proofs.YtpdinahdcedmkaaDoorW.PrintLast Go.Proofs.YtpdinahdcedmkaaDoorW.PrintMore

theorem extract_list (s : ByteArray) (i j : Nat) : (s.extract i j).data.toList = (s.data.toList.take j).drop i := by
  rw [ByteArray.data_extract, Array.toList_extract, List.extract_eq_take_drop, List.drop_take]
theorem extract_nums (l : List Int) (i j : Nat) : (strOfNums l).extract i j = strOfNums ((l.take j).drop i) := by
  apply ByteArray.ext
  rw [← Array.toList_inj, extract_list, strOfNums_data, strOfNums_data, List.map_drop, List.map_take]
theorem bt_list (s : ByteArray) (i : Nat) (h : i < s.size) : bt s i = ((s.data.toList.getD i 0).toNat : Int) := by
  have h' : i < s.data.size := h
  unfold bt
  rw [dif_pos (show (i : Int).toNat < s.size by simpa using h)]
  simp [List.getD_eq_getElem?_getD]
  rw [Array.getElem?_eq_getElem h']
  rfl
theorem bt_nums (l : List Int) (i : Nat) (h : i < l.length) (hb : 0 ≤ l.getD i 0 ∧ l.getD i 0 ≤ 255) : bt (strOfNums l) i = l.getD i 0 := by
  rw [bt_list _ _ (by rw [strOfNums_size]; exact h), strOfNums_data]
  simp [List.getD_eq_getElem?_getD, h] at hb ⊢
  omega
theorem unqL_plain (b : Int) (t out : List Int) (F : Nat) (hF : (b :: t).length ≤ F) (hb : 0 ≤ b ∧ b ≤ 255) (hne : b ≠ 92) : ∃ F', t.length ≤ F' ∧ unqL F (strOfNums (b :: t)) out = unqL F' (strOfNums t) (out ++ [b]) := by
  obtain ⟨F', rfl⟩ : ∃ k, F = k + 1 := ⟨F - 1, by simp at hF; omega⟩
  refine ⟨F', by simpa using hF, ?_⟩
  have h0 : bt (strOfNums (b :: t)) 0 = b := bt_nums (b :: t) 0 (by simp) hb
  have ht : takenS (strOfNums (b :: t)) = ([b], 1, true) := by unfold takenS; rw [if_pos (by rw [h0]; exact hne), h0]
  rw [unqL, if_neg (by rw [strOfNums_size]; simp), ht]
  simp only [if_true]
  rw [extract_nums, strOfNums_size, List.take_of_length_le (Nat.le_refl _)]
  rfl
theorem unqL_plains : ∀ (p t out : List Int) (F : Nat), (p ++ t).length ≤ F → (∀ b ∈ p, (0 ≤ b ∧ b ≤ 255) ∧ b ≠ 92) → ∃ F', t.length ≤ F' ∧ unqL F (strOfNums (p ++ t)) out = unqL F' (strOfNums t) (out ++ p)
  | [], t, out, F, hF, _ => ⟨F, hF, by simp⟩
  | b :: p, t, out, F, hF, h => by
    obtain ⟨F1, h1, e1⟩ := unqL_plain b (p ++ t) out F hF (h b (by simp)).1 (h b (by simp)).2
    obtain ⟨F2, h2, e2⟩ := unqL_plains p t (out ++ [b]) F1 h1 (fun x hx => h x (by simp [hx]))
    exact ⟨F2, h2, by rw [List.cons_append, e1, e2]; simp⟩
theorem unqL_two (b : Int) (t out : List Int) (F : Nat) (hF : (92 :: b :: t).length ≤ F) (hb : 0 ≤ b ∧ b ≤ 255) (hne : b ≠ 120) : ∃ F', t.length ≤ F' ∧ unqL F (strOfNums (92 :: b :: t)) out = unqL F' (strOfNums t) (out ++ [b]) := by
  obtain ⟨F', rfl⟩ : ∃ k, F = k + 1 := ⟨F - 1, by simp at hF; omega⟩
  refine ⟨F', by simp at hF; omega, ?_⟩
  have h0 : bt (strOfNums (92 :: b :: t)) 0 = 92 := bt_nums (92 :: b :: t) 0 (by simp) (by simp)
  have h1 : bt (strOfNums (92 :: b :: t)) 1 = b := bt_nums (92 :: b :: t) 1 (by simp) (by simpa using hb)
  have hz : (strOfNums (92 :: b :: t)).size = t.length + 2 := by rw [strOfNums_size]; rfl
  have ht : takenS (strOfNums (92 :: b :: t)) = ([b], 2, true) := by unfold takenS; rw [if_neg (by rw [h0]; simp), if_neg (by omega), if_pos (by rw [h1]; exact hne), h1]
  rw [unqL, if_neg (by omega), ht]
  simp only [if_true]
  rw [extract_nums, strOfNums_size, List.take_of_length_le (Nat.le_refl _)]
  rfl
theorem unqL_hex (b : Int) (t out : List Int) (F : Nat) (hF : (92 :: 120 :: hexd (b / 16) :: hexd (b % 16) :: t).length ≤ F) (hb : 0 ≤ b ∧ b ≤ 255) : ∃ F', t.length ≤ F' ∧ unqL F (strOfNums (92 :: 120 :: hexd (b / 16) :: hexd (b % 16) :: t)) out = unqL F' (strOfNums t) (out ++ [b]) := by
  obtain ⟨F', rfl⟩ : ∃ k, F = k + 1 := ⟨F - 1, by simp at hF; omega⟩
  refine ⟨F', by simp at hF; omega, ?_⟩
  have hu : unhexS (strOfNums [hexd (b / 16), hexd (b % 16)]) = ([b], 2, 0) := unhex_hex [b] (fun x hx => by simp at hx; omega)
  generalize hexd (b / 16) = x at *
  generalize hexd (b % 16) = y at *
  have h0 : bt (strOfNums (92 :: 120 :: x :: y :: t)) 0 = 92 := bt_nums (92 :: 120 :: x :: y :: t) 0 (by simp) (by simp)
  have h1 : bt (strOfNums (92 :: 120 :: x :: y :: t)) 1 = 120 := bt_nums (92 :: 120 :: x :: y :: t) 1 (by simp) (by simp)
  have hz : (strOfNums (92 :: 120 :: x :: y :: t)).size = t.length + 4 := by rw [strOfNums_size]; rfl
  have hx : (strOfNums (92 :: 120 :: x :: y :: t)).extract 2 4 = strOfNums [x, y] := by rw [extract_nums]; rfl
  have ht : takenS (strOfNums (92 :: 120 :: x :: y :: t)) = ([b], 4, true) := by
    unfold takenS
    rw [if_neg (by rw [h0]; simp), if_neg (by omega), if_neg (by rw [h1]; simp), if_neg (by omega), hx, hu]
    rfl
  rw [unqL, if_neg (by omega), ht]
  simp only [if_true]
  rw [extract_nums, strOfNums_size, List.take_of_length_le (Nat.le_refl _)]
  rfl
theorem bytes_ext1 (s : ByteArray) (pos : Nat) (h : pos < s.size) : bytesOf (s.extract pos (pos + 1)) = [bt s pos] := by
  unfold bytesOf
  have hl : pos < s.data.toList.length := by rw [size_data]; exact h
  rw [extract_list, bt_list s pos h, List.drop_take, show pos + 1 - pos = 1 by omega, List.drop_eq_getElem_cons hl]
  simp only [List.take_succ_cons, List.take_zero, List.map_cons, List.map_nil, List.getD_eq_getElem?_getD, List.getElem?_eq_getElem hl]
  rfl
theorem bytes_rune (s : ByteArray) (pos : Nat) (h : pos < s.size) (hv : ¬ ((Utf8.decode s pos).1 = 65533 ∧ (Utf8.decode s pos).2 = 1)) (h92 : (Utf8.decode s pos).1 ≠ 92) : ∀ b ∈ bytesOf (s.extract pos (pos + (Utf8.decode s pos).2)), (0 ≤ b ∧ b ≤ 255) ∧ b ≠ 92 := by
  have hne : s.data.toList.drop pos ≠ [] := by
    intro h0
    have := congrArg List.length h0
    simp only [List.length_drop, Array.length_toList, List.length_nil] at this
    have : s.data.size = s.size := rfl
    omega
  have e := Lib.encode_decode (s.data.toList.drop pos) hne (by rw [Lib.decodeL_drop]; exact hv)
  rw [Lib.decodeL_drop] at e
  intro b hb
  unfold bytesOf at hb
  rw [extract_list, List.drop_take, show pos + (Utf8.decode s pos).2 - pos = (Utf8.decode s pos).2 by omega, ← e] at hb
  unfold Lib.encodeRune at hb
  rw [List.map_map, List.mem_map] at hb
  obtain ⟨x, hx, rfl⟩ := hb
  have hxb := Lib.encodeRuneZ_byte _ x hx
  have hx92 : x ≠ 92 := by
    generalize (Utf8.decode s pos).1 = r at *
    unfold Lib.encodeRuneZ at hx
    repeat' split at hx
    all_goals simp at hx; omega
  simp
  omega
theorem unqL_quote (s : ByteArray) : ∀ (f pos F : Nat) (out : List Int), s.size ≤ pos + f → (quoteF s (rns s f pos)).length ≤ F → unqL F (strOfNums (quoteF s (rns s f pos))) out = some (out ++ bytesOf (s.extract pos s.size))
  | f, pos, F, out, hf, hF => by
    by_cases h : pos < s.size
    · have hw := Lib.decode_width_pos s pos h
      have hwl := width_le' s pos h
      obtain ⟨f', rfl⟩ : ∃ f', f = f' + 1 := ⟨f - 1, by omega⟩
      have he : quoteF s (rns s (f' + 1) pos) = quoteP s (pos, (Utf8.decode s pos).1, (Utf8.decode s pos).2) ++ quoteF s (rns s f' (pos + (Utf8.decode s pos).2)) := by
        simp only [rns, if_pos h]
        rfl
      rw [he] at hF ⊢
      have key : ∃ F', (quoteF s (rns s f' (pos + (Utf8.decode s pos).2))).length ≤ F' ∧ unqL F (strOfNums (quoteP s (pos, (Utf8.decode s pos).1, (Utf8.decode s pos).2) ++ quoteF s (rns s f' (pos + (Utf8.decode s pos).2)))) out = unqL F' (strOfNums (quoteF s (rns s f' (pos + (Utf8.decode s pos).2)))) (out ++ bytesOf (s.extract pos (pos + (Utf8.decode s pos).2))) := by
        have hbt := bt_range s pos
        have low : (Utf8.decode s pos).1 < 128 → (Utf8.decode s pos).2 = 1 ∧ bt s pos = ((Utf8.decode s pos).1 : Int) := fun hl => by
          have := decode_low' s pos h hl
          rw [this, bt_list s pos h]
          exact ⟨rfl, rfl⟩
        by_cases c1 : (Utf8.decode s pos).1 = 34 ∨ (Utf8.decode s pos).1 = 92
        · have hP : quoteP s (pos, (Utf8.decode s pos).1, (Utf8.decode s pos).2) = [92, ((Utf8.decode s pos).1 : Int)] := by unfold quoteP; rw [if_pos c1]
          obtain ⟨l1, l2⟩ := low (by omega)
          rw [hP] at hF ⊢
          rw [l1, bytes_ext1 s pos h, l2]
          rw [l1] at hF
          exact unqL_two _ _ _ _ hF (by omega) (by omega)
        · by_cases c2 : (Utf8.decode s pos).1 < 32 ∨ (Utf8.decode s pos).1 = 127 ∨ ((Utf8.decode s pos).1 = 65533 ∧ (Utf8.decode s pos).2 = 1)
          · have hP : quoteP s (pos, (Utf8.decode s pos).1, (Utf8.decode s pos).2) = [92, 120, hexd (bt s pos / 16), hexd (bt s pos % 16)] := by unfold quoteP; rw [if_neg c1, if_pos c2]
            have l1 : (Utf8.decode s pos).2 = 1 := by
              rcases c2 with c | c | c
              · exact (low (by omega)).1
              · exact (low (by omega)).1
              · exact c.2
            rw [hP] at hF ⊢
            rw [l1, bytes_ext1 s pos h]
            rw [l1] at hF
            exact unqL_hex _ _ _ _ hF hbt
          · have hP : quoteP s (pos, (Utf8.decode s pos).1, (Utf8.decode s pos).2) = bytesOf (s.extract pos (pos + (Utf8.decode s pos).2)) := by unfold quoteP; rw [if_neg c1, if_neg c2]
            rw [hP] at hF ⊢
            exact unqL_plains _ _ _ _ hF (bytes_rune s pos h (by omega) (by omega))
      obtain ⟨F', h1, h2⟩ := key
      rw [h2, unqL_quote s f' (pos + (Utf8.decode s pos).2) F' _ (by omega) h1, List.append_assoc, ← bytesOf_append, extract_split s _ _ (by omega) hwl]
    · rw [rns_end s f pos h]
      have : (s.extract pos s.size).size = 0 := by rw [ByteArray.size_extract]; omega
      rw [show quoteF s [] = [] from rfl, unqL_end _ _ _ (by rw [strOfNums_size]; rfl)]
      have e : bytesOf (s.extract pos s.size) = [] := by
        apply List.length_eq_zero_iff.1
        rw [bytesOf_length]
        exact this
      rw [e]
      simp
theorem unq_quote (s : ByteArray) : unqS (quoteS s) = (s, 0) := by
  have hz : (quoteS s).size = (quoteF s (runesOf s)).length + 2 := by unfold quoteS; rw [strOfNums_size]; simp
  have hx : (quoteS s).extract 1 ((quoteS s).size - 1) = strOfNums (quoteF s (runesOf s)) := by
    rw [hz]
    unfold quoteS
    rw [extract_nums]
    congr 1
    rw [show (quoteF s (runesOf s)).length + 2 - 1 = (quoteF s (runesOf s)).length + 1 by omega]
    simp
  unfold unqS
  rw [if_neg (by omega), hx]
  have := unqL_quote s s.size 0 (quoteS s).size [] (by omega) (by rw [hz]; exact Nat.le_add_right _ _)
  unfold runesOf
  rw [this]
  simp only [List.nil_append]
  rw [show s.extract 0 s.size = s by simp, strOfNums_bytesOf, if_pos rfl]
theorem quote_unq (q : ByteArray) (h : (unqS q).2 = 0) : quoteS (unqS q).1 = q := by
  revert h
  unfold unqS
  split
  · intro h; exact absurd h (show ¬ (11 : Int) = 0 by decide)
  · split
    · intro h; exact absurd h (show ¬ (11 : Int) = 0 by decide)
    · split
      · rename_i e; intro _; exact e
      · intro h; exact absurd h (show ¬ (11 : Int) = 0 by decide)
end Go.Proofs.YtpdinahdcedmkaaDoor.Ext
