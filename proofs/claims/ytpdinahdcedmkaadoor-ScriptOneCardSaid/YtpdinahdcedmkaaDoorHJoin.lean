import Derived.Test.YtpdinahdcedmkaaDoorMWl
import Derived.Test.YtpdinahdcedmkaaDoorMUnq
import Derived.Test.YtpdinahdcedmkaaDoorQuote
/- The words of a line that is good words with one blank between two; plain words and quoted words are good. -/
namespace Go.Proofs.YtpdinahdcedmkaaDoor.Ext
set_option linter.unusedVariables false
set_option linter.unusedSimpArgs false
open Go.RowKit Go.Proofs.YtpdinahdcedmkaaDoorW.PrintWords Go.Proofs.YtpdinahdcedmkaaDoorW.PrintLast Go.Proofs.YtpdinahdcedmkaaDoorW.PrintMore

/-- a word alone is one word -/
def GoodW (w : List UInt8) : Prop := wl w [] false false false = some [w]
theorem wl_sep : ∀ (w cur : List UInt8) (q e sh : Bool) (t : List UInt8), (e = true → q = true) → wl w cur q e sh = some [cur ++ w] → wl (w ++ 32 :: t) cur q e sh = (wl t [] false false false).map ((cur ++ w) :: ·)
  | [], cur, q, e, sh, t, he, h => by
    rw [wl_nil] at h
    by_cases hn : q = true ∨ cur = []
    · rw [if_pos hn] at h; cases h
    · have hc : cur ≠ [] := fun h => hn (.inr h)
      have hq : q = false := by cases q with
        | false => rfl
        | true => exact absurd (.inl rfl) hn
      have hee : e = false := by cases e with
        | false => rfl
        | true => have := he rfl; rw [hq] at this; cases this
      subst hq hee
      rw [List.nil_append, List.append_nil, wl_cons, if_neg (by simp), if_neg (by simp), if_neg (fun x => hc x.2), if_neg (by simp), if_neg (by simp), if_pos ⟨rfl, hc⟩]
  | b :: w, cur, q, e, sh, t, he, h => by
    rw [List.cons_append, wl_cons]
    rw [wl_cons] at h
    have hap : cur ++ b :: w = (cur ++ [b]) ++ w := by simp
    rw [hap] at h ⊢
    by_cases h1 : e = true
    · rw [if_pos h1] at h ⊢
      exact wl_sep w (cur ++ [b]) q false sh t (by simp) h
    rw [if_neg h1] at h ⊢
    by_cases h2 : q = true ∧ b = 92
    · rw [if_pos h2] at h ⊢
      exact wl_sep w (cur ++ [b]) q true sh t (fun _ => h2.1) h
    rw [if_neg h2] at h ⊢
    by_cases h3 : b = 34 ∧ cur = []
    · rw [if_pos h3] at h ⊢
      exact wl_sep w (cur ++ [b]) true e sh t (fun x => absurd x h1) h
    rw [if_neg h3] at h ⊢
    by_cases h4 : b = 34 ∧ q = true
    · rw [if_pos h4] at h ⊢
      exact wl_sep w (cur ++ [b]) false e true t (fun x => absurd x h1) h
    rw [if_neg h4] at h ⊢
    by_cases h5 : q = true
    · rw [if_pos h5] at h ⊢
      exact wl_sep w (cur ++ [b]) q e sh t (fun x => absurd x h1) h
    rw [if_neg h5] at h ⊢
    by_cases h6 : b = 32 ∧ cur ≠ []
    · rw [if_pos h6, Option.map_eq_some_iff] at h
      obtain ⟨ws, hw, he2⟩ := h
      injection he2 with _ h8
      exact absurd h8 (wl_ne _ _ _ _ _ _ hw)
    rw [if_neg h6] at h ⊢
    by_cases h7 : b = 32 ∨ b = 34 ∨ sh = true
    · rw [if_pos h7] at h; cases h
    rw [if_neg h7] at h ⊢
    exact wl_sep w (cur ++ [b]) q e sh t he h
theorem wl_joinW : ∀ (ws : List (List UInt8)), ws ≠ [] → (∀ w ∈ ws, GoodW w) → wl (joinW ws) [] false false false = some ws
  | [], h, _ => absurd rfl h
  | [w], _, h => h w (by simp)
  | w :: v :: t, _, h => by
    have e : joinW (w :: v :: t) = w ++ 32 :: joinW (v :: t) := by show w ++ [32] ++ joinW (v :: t) = _; simp
    rw [e, wl_sep w [] false false false _ (by simp) (h w (by simp)), wl_joinW (v :: t) (by simp) (fun x hx => h x (by simp [hx]))]
    rfl
theorem joinW_append : ∀ (a b : List (List UInt8)), a ≠ [] → b ≠ [] → joinW (a ++ b) = joinW a ++ 32 :: joinW b
  | [], b, h, _ => absurd rfl h
  | [w], [], _, h => absurd rfl h
  | [w], v :: t, _, _ => by show w ++ [32] ++ joinW (v :: t) = w ++ 32 :: joinW (v :: t); simp
  | w :: v :: t, b, _, hb => by
    show w ++ [32] ++ joinW ((v :: t) ++ b) = (w ++ [32] ++ joinW (v :: t)) ++ 32 :: joinW b
    rw [joinW_append (v :: t) b (by simp) hb]
    simp
theorem wl_plainW : ∀ (w cur : List UInt8), (∀ b ∈ w, b ≠ 32 ∧ b ≠ 34) → (cur ≠ [] ∨ w ≠ []) → wl w cur false false false = some [cur ++ w]
  | [], cur, _, h => by
    have hc : cur ≠ [] := h.resolve_right (by simp)
    rw [wl_nil, if_neg (by simp [hc]), List.append_nil]
  | b :: t, cur, hb, h => by
    have h0 := hb b (by simp)
    rw [wl_cons, if_neg (by simp), if_neg (by simp), if_neg (fun x => h0.2 x.1), if_neg (by simp), if_neg (by simp), if_neg (fun x => h0.1 x.1), if_neg (fun x => x.elim h0.1 (fun y => y.elim h0.2 (by simp))), wl_plainW t (cur ++ [b]) (fun x hx => hb x (by simp [hx])) (.inl (by simp))]
    simp
theorem good_plain {w : List UInt8} (h : ∀ b ∈ w, b ≠ 32 ∧ b ≠ 34) (hn : w ≠ []) : GoodW w := by
  have := wl_plainW w [] h (.inr hn)
  rwa [List.nil_append] at this
/-! ### between two quotes -/
theorem wl_q1 (b : UInt8) (t cur : List UInt8) (hc : cur ≠ []) (h1 : b ≠ 92) (h2 : b ≠ 34) : wl (b :: t) cur true false false = wl t (cur ++ [b]) true false false := by
  rw [wl_cons, if_neg (by simp), if_neg (fun x => h1 x.2), if_neg (fun x => h2 x.1), if_neg (fun x => h2 x.1), if_pos rfl]
theorem wl_q2 (b : UInt8) (t cur : List UInt8) : wl (92 :: b :: t) cur true false false = wl t (cur ++ [92, b]) true false false := by
  rw [wl_cons, if_neg (by simp), if_pos ⟨rfl, rfl⟩, wl_cons, if_pos rfl]
  simp
theorem wl_qs : ∀ (p t cur : List UInt8), cur ≠ [] → (∀ b ∈ p, b ≠ 92 ∧ b ≠ 34) → wl (p ++ t) cur true false false = wl t (cur ++ p) true false false
  | [], t, cur, _, _ => by simp
  | b :: p, t, cur, hc, hb => by
    have h0 := hb b (by simp)
    rw [List.cons_append, wl_q1 b _ cur hc h0.1 h0.2, wl_qs p t (cur ++ [b]) (by simp) (fun x hx => hb x (by simp [hx]))]
    simp
/-- what text stands for a list of numbers -/
def u8s (l : List Int) : List UInt8 := (strOfNums l).data.toList
theorem u8s_append (a b : List Int) : u8s (a ++ b) = u8s a ++ u8s b := by unfold u8s; rw [strOfNums_data, strOfNums_data, strOfNums_data, List.map_append]
theorem u8s_cons (x : Int) (l : List Int) : u8s (x :: l) = u8s [x] ++ u8s l := u8s_append [x] l
theorem hexd_byte : ∀ n : Fin 16, ∀ b ∈ u8s [hexd (n.val : Int)], b ≠ 92 ∧ b ≠ 34 ∧ b ≠ 32 := by decide +kernel
theorem hexd_b (x : Int) (h0 : 0 ≤ x) (h1 : x < 16) : ∀ b ∈ u8s [hexd x], b ≠ 92 ∧ b ≠ 34 ∧ b ≠ 32 := by
  obtain ⟨n, rfl⟩ := Int.eq_ofNat_of_zero_le h0
  exact hexd_byte ⟨n, by omega⟩
theorem bytes_cut (s : ByteArray) (a b : Nat) : u8s (bytesOf (s.extract a b)) = cut s a b := by
  unfold u8s
  rw [strOfNums_bytesOf, cut_data]
/-- a rune's quoted form, between two quotes -/
theorem wl_piece (s : ByteArray) (pos : Nat) (h : pos < s.size) (t cur : List UInt8) (hc : cur ≠ []) :
    wl (u8s (quoteP s (pos, (Utf8.decode s pos).1, (Utf8.decode s pos).2)) ++ t) cur true false false = wl t (cur ++ u8s (quoteP s (pos, (Utf8.decode s pos).1, (Utf8.decode s pos).2))) true false false := by
  unfold quoteP
  by_cases h1 : (Utf8.decode s pos).1 = 34 ∨ (Utf8.decode s pos).1 = 92
  · rw [if_pos h1]
    rcases h1 with h1 | h1
    · rw [h1]
      exact wl_q2 34 t cur
    · rw [h1]
      exact wl_q2 92 t cur
  rw [if_neg h1]
  by_cases h2 : (Utf8.decode s pos).1 < 32 ∨ (Utf8.decode s pos).1 = 127 ∨ ((Utf8.decode s pos).1 = 65533 ∧ (Utf8.decode s pos).2 = 1)
  · rw [if_pos h2]
    have hb := bt_range s pos
    have e : u8s [92, 120, hexd (bt s pos / 16), hexd (bt s pos % 16)] = 92 :: 120 :: (u8s [hexd (bt s pos / 16)] ++ u8s [hexd (bt s pos % 16)]) := by
      rw [u8s_cons, u8s_cons 120, u8s_cons (hexd (bt s pos / 16))]
      rfl
    show wl (u8s [92, 120, hexd (bt s pos / 16), hexd (bt s pos % 16)] ++ t) cur true false false = wl t (cur ++ u8s [92, 120, hexd (bt s pos / 16), hexd (bt s pos % 16)]) true false false
    rw [e]
    show wl (92 :: 120 :: ((u8s [hexd (bt s pos / 16)] ++ u8s [hexd (bt s pos % 16)]) ++ t)) cur true false false = _
    rw [wl_q2, wl_qs _ t _ (by simp)]
    · simp
    · intro b hb2
      rcases List.mem_append.1 hb2 with hb2 | hb2
      · have := hexd_b (bt s pos / 16) (by omega) (by omega) b hb2
        exact ⟨this.1, this.2.1⟩
      · have := hexd_b (bt s pos % 16) (by omega) (by omega) b hb2
        exact ⟨this.1, this.2.1⟩
  rw [if_neg h2]
  show wl (u8s (bytesOf (s.extract pos (pos + (Utf8.decode s pos).2))) ++ t) cur true false false = wl t (cur ++ u8s (bytesOf (s.extract pos (pos + (Utf8.decode s pos).2)))) true false false
  rw [bytes_cut]
  refine wl_qs _ t cur hc ?_
  have hw := width_le s pos h
  have hl : s.data.toList.length = s.size := by rw [Array.length_toList]; rfl
  intro b hb
  obtain ⟨i, hi⟩ := List.mem_iff_getElem?.1 hb
  unfold cut at hi
  have hil : i < (Utf8.decode s pos).2 := by
    rcases Nat.lt_or_ge i (Utf8.decode s pos).2 with h9 | h9
    · exact h9
    · rw [List.getElem?_eq_none (by rw [List.length_take]; omega)] at hi; cases hi
  rw [List.getElem?_take, if_pos (by omega), List.getElem?_drop] at hi
  obtain rfl : s.data.toList.getD (pos + i) 0 = b := by rw [List.getD_eq_getElem?_getD, hi]; rfl
  rcases Nat.lt_or_ge (Utf8.decode s pos).1 128 with hr | hr
  · obtain ⟨e1, e2⟩ := rune_low s pos h hr
    obtain rfl : i = 0 := by omega
    rw [Nat.add_zero]
    constructor
    · intro h9
      rw [h9] at e2
      exact h1 (.inr e2.symm)
    · intro h9
      rw [h9] at e2
      exact h1 (.inl e2.symm)
  · have := rune_high s pos h hr i hil
    constructor
    · intro h9
      rw [h9] at this
      revert this
      decide
    · intro h9
      rw [h9] at this
      revert this
      decide
theorem wl_quoteF (s : ByteArray) : ∀ (f pos : Nat) (t cur : List UInt8), cur ≠ [] → wl (u8s (quoteF s (rns s f pos)) ++ t) cur true false false = wl t (cur ++ u8s (quoteF s (rns s f pos))) true false false
  | 0, pos, t, cur, hc => by
    show wl ([] ++ t) cur true false false = wl t (cur ++ []) true false false
    simp
  | f + 1, pos, t, cur, hc => by
    unfold rns
    by_cases h : pos < s.size
    · rw [if_pos h]
      unfold quoteF
      rw [List.flatMap_cons, u8s_append, List.append_assoc, wl_piece s pos h _ cur hc]
      have ih := wl_quoteF s f (pos + (Utf8.decode s pos).2) t (cur ++ u8s (quoteP s (pos, (Utf8.decode s pos).1, (Utf8.decode s pos).2))) (by simp [hc])
      unfold quoteF at ih
      rw [ih, List.append_assoc]
    · rw [if_neg h]
      show wl ([] ++ t) cur true false false = wl t (cur ++ []) true false false
      simp
/-- what Quote makes is one word -/
theorem good_quote (s : ByteArray) : GoodW (quoteS s).data.toList := by
  have e : (quoteS s).data.toList = 34 :: (u8s (quoteF s (runesOf s)) ++ [34]) := by
    show u8s ([34] ++ quoteF s (runesOf s) ++ [34]) = _
    rw [u8s_append, u8s_append]
    rfl
  unfold GoodW
  rw [e, wl_cons, if_neg (by simp), if_neg (by simp), if_pos ⟨rfl, rfl⟩]
  unfold runesOf
  rw [wl_quoteF s _ _ _ _ (by simp), wl_cons, if_neg (by simp), if_neg (by simp), if_neg (by simp), if_pos ⟨rfl, rfl⟩, wl_nil, if_neg (by simp)]
  simp
end Go.Proofs.YtpdinahdcedmkaaDoor.Ext

