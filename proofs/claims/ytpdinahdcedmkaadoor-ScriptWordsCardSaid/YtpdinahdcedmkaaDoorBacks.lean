/- What comes back, plainly: numbers in bytes, bits, digits, decimals. -/
import Derived.Test.YtpdinahdcedmkaaDoorDecs
import Derived.Test.YtpdinahdcedmkaaDoorLawPlain
namespace Go.Proofs.YtpdinahdcedmkaaDoor.Ext
set_option linter.unusedVariables false
open Go.RowKit Go.Proofs.YtpdinahdcedmkaaDoorW.PrintWords Go.Proofs.YtpdinahdcedmkaaDoorW.PrintLast Go.Proofs.YtpdinahdcedmkaaDoorW.PrintMore

/-! ### numbers in bytes -/
/-! ### bits -/
/-! ### texts of single bytes -/
theorem size_data (s : ByteArray) : s.data.toList.length = s.size := by rw [Array.length_toList]; rfl
theorem get_list (s : ByteArray) (i : Nat) (h : i < s.size) : (s.get! i) = s.data.toList.getD i 0 := by
  have h' : i < s.data.size := h
  show s.data[i]! = _
  rw [getElem!_pos s.data i h']
  simp [List.getD_eq_getElem?_getD]
  rw [Array.getElem?_eq_getElem h']
  rfl
theorem decode_low (s : ByteArray) (pos : Nat) (h : pos < s.size) (hb : (s.data.toList.getD pos 0).toNat < 128) : Utf8.decode s pos = ((s.data.toList.getD pos 0).toNat, 1) := by
  rw [Lib.decode_at, get_list s pos h]
  unfold Lib.decodeN
  rw [if_pos hb]
theorem decode_low' (s : ByteArray) (pos : Nat) (h : pos < s.size) (hr : (Utf8.decode s pos).1 < 128) : Utf8.decode s pos = ((s.data.toList.getD pos 0).toNat, 1) := by
  rw [Lib.decode_at, get_list s pos h] at *
  rcases Lib.decodeN_shape (s.size - pos) (s.data.toList.getD pos 0).toNat (s.get! (pos + 1)).toNat (s.get! (pos + 2)).toNat (s.get! (pos + 3)).toNat with ⟨c, e⟩ | ⟨k1, k2, k3, cv, e⟩ | ⟨k1, k2, k3, k4, cv, cs, e⟩ | ⟨k1, k2, k3, k4, k5, cv, cw, e⟩ | e
  · exact e
  all_goals rw [e] at hr; simp only at hr; omega
theorem rns_low (s : ByteArray) : ∀ (f pos : Nat), s.size ≤ pos + f → (∀ i, pos ≤ i → i < s.size → (s.data.toList.getD i 0).toNat < 128) → rv (rns s f pos) = (s.data.toList.drop pos).map UInt8.toNat
  | f, pos, hf, ha => by
    by_cases h : pos < s.size
    · obtain ⟨f', rfl⟩ : ∃ f', f = f' + 1 := ⟨f - 1, by omega⟩
      have hd := decode_low s pos h (ha pos (Nat.le_refl _) h)
      have ih := rns_low s f' (pos + 1) (by omega) (fun i h1 h2 => ha i (by omega) h2)
      simp only [rns, if_pos h, hd]
      unfold rv at ih ⊢
      rw [List.map_cons, ih]
      have hl : pos < s.data.toList.length := by rw [size_data]; exact h
      rw [List.drop_eq_getElem_cons hl, List.map_cons]
      congr 1
      simp [List.getD_eq_getElem?_getD, List.getElem?_eq_getElem hl]
    · rw [rns_end s f pos h, List.drop_eq_nil_of_le (by rw [size_data]; omega)]
      rfl
/-- where every rune is a low one the runes are the bytes -/
theorem rns_low' (s : ByteArray) : ∀ (f pos : Nat), s.size ≤ pos + f → (∀ r ∈ rv (rns s f pos), r < 128) → rv (rns s f pos) = (s.data.toList.drop pos).map UInt8.toNat
  | f, pos, hf, ha => by
    by_cases h : pos < s.size
    · obtain ⟨f', rfl⟩ : ∃ f', f = f' + 1 := ⟨f - 1, by omega⟩
      simp only [rns, if_pos h] at ha
      have hd := decode_low' s pos h (ha _ (by simp [rv]))
      rw [hd] at ha
      have ih := rns_low' s f' (pos + 1) (by omega) (fun r hr => ha r (by simp only [rv, List.map_cons, List.mem_cons]; exact .inr hr))
      simp only [rns, if_pos h, hd]
      unfold rv at ih ⊢
      rw [List.map_cons, ih]
      have hl : pos < s.data.toList.length := by rw [size_data]; exact h
      rw [List.drop_eq_getElem_cons hl, List.map_cons]
      congr 1
      simp [List.getD_eq_getElem?_getD, List.getElem?_eq_getElem hl]
    · rw [rns_end s f pos h, List.drop_eq_nil_of_le (by rw [size_data]; omega)]
      rfl
def Low (l : List Int) : Prop := ∀ x ∈ l, 0 ≤ x ∧ x < 128
theorem nums_toNat (l : List Int) (h : Bytes l) : (strOfNums l).data.toList.map UInt8.toNat = l.map Int.toNat := by
  rw [strOfNums_data, List.map_map]
  apply List.map_congr_left
  intro x hx
  have := h x hx
  simp
  omega
theorem Low.bytes {l : List Int} (h : Low l) : Bytes l := fun x hx => by have := h x hx; omega
theorem runes_low (l : List Int) (h : Low l) : rv (runesOf (strOfNums l)) = l.map Int.toNat := by
  unfold runesOf
  rw [rns_low _ _ 0 (by omega), List.drop_zero, nums_toNat l h.bytes]
  intro i _ hi
  have hl : i < l.length := by rw [strOfNums_size] at hi; exact hi
  have := h l[i] (List.getElem_mem hl)
  rw [strOfNums_data]
  simp [List.getD_eq_getElem?_getD, hl]
  omega
/-- a text of low runes from its runes -/
theorem str_low (s : ByteArray) (h : ∀ r ∈ rv (runesOf s), r < 128) : s = strOfNums ((rv (runesOf s)).map Int.ofNat) := by
  have e := rns_low' s s.size 0 (by omega) h
  unfold runesOf
  rw [e, List.drop_zero]
  conv => lhs; rw [← strOfNums_bytesOf s]
  rw [bytesOf, List.map_map]
  rfl

/-! ### digits -/
theorem unhexR_all : ∀ (L : List Nat) (ds : List Int), (∀ r ∈ L, isd r = true) → unhexR ds L = if (ds ++ L.map dv).length % 2 = 1 then ([], ((ds ++ L.map dv).length : Int), 10) else (pk (ds ++ L.map dv), ((ds ++ L.map dv).length : Int), 0)
  | [], ds, _ => by simp [unhexR]
  | r :: t, ds, h => by
    rw [unhexR, if_pos (h r (by simp)), unhexR_all t _ (fun x hx => h x (by simp [hx]))]
    simp
theorem unhexR_ok : ∀ (L : List Nat) (ds : List Int), (unhexR ds L).2.2 = 0 → ∀ r ∈ L, isd r = true
  | [], ds, _, r, hr => by simp at hr
  | a :: t, ds, h, r, hr => by
    rw [unhexR] at h
    by_cases e : isd a = true
    · rw [if_pos e] at h
      rcases List.mem_cons.1 hr with rfl | hr
      · exact e
      · exact unhexR_ok t _ h r hr
    · rw [if_neg e] at h; exact absurd h (show ¬ (10 : Int) = 0 by decide)
theorem hexd_dv (r : Nat) (h : isd r = true) : hexd (dv r) = (r : Int) := by
  unfold isd at h
  simp at h
  unfold dv hexd
  split <;> split <;> omega
theorem dv_hexd (x : Int) (h0 : 0 ≤ x) (h1 : x < 16) : isd (hexd x).toNat = true ∧ dv (hexd x).toNat = x := by
  obtain ⟨n, rfl⟩ := Int.eq_ofNat_of_zero_le h0
  have : ∀ n : Fin 16, isd (hexd ((n.val : Nat) : Int)).toNat = true ∧ dv (hexd ((n.val : Nat) : Int)).toNat = ((n.val : Nat) : Int) := by decide +kernel
  exact this ⟨n, by omega⟩
theorem hexd_low (x : Int) (h0 : 0 ≤ x) (h1 : x < 16) : 0 ≤ hexd x ∧ hexd x < 128 := by unfold hexd; split <;> omega
theorem pk_nib : ∀ l : List Int, Bytes l → pk (l.flatMap fun x => [x / 16, x % 16]) = l
  | [], _ => rfl
  | x :: l, h => by
    have ih := pk_nib l (fun y hy => h y (by simp [hy]))
    have := h x (by simp)
    simp only [List.flatMap_cons, List.cons_append, List.nil_append, pk, ih]
    congr 1
    omega
theorem hexS_pk : ∀ D : List Int, D.length % 2 = 0 → (∀ x ∈ D, 0 ≤ x ∧ x < 16) → hexS (pk D) = D.map hexd
  | [], _, _ => rfl
  | [a], h, _ => by simp at h
  | a :: b :: t, h, hb => by
    have ih := hexS_pk t (by simp at h; omega) (fun x hx => hb x (by simp [hx]))
    have ha := hb a (by simp)
    have hb' := hb b (by simp)
    unfold hexS at ih ⊢
    simp only [pk, List.flatMap_cons, ih, List.map_cons, List.cons_append, List.nil_append]
    rw [show (a * 16 + b) / 16 = a by omega, show (a * 16 + b) % 16 = b by omega]
theorem hexS_low (l : List Int) (h : Bytes l) : Low (hexS l) := by
  intro x hx
  unfold hexS at hx
  rw [List.mem_flatMap] at hx
  obtain ⟨y, hy, hx⟩ := hx
  have := h y hy
  simp only [List.mem_cons, List.not_mem_nil, or_false] at hx
  rcases hx with rfl | rfl
  · exact hexd_low _ (by omega) (by omega)
  · exact hexd_low _ (by omega) (by omega)
theorem unhex_hex (l : List Int) (h : Bytes l) : unhexS (strOfNums (hexS l)) = (l, 2 * (l.length : Int), 0) := by
  unfold unhexS
  rw [runes_low _ (hexS_low l h)]
  have hd : ∀ r ∈ (hexS l).map Int.toNat, isd r = true := by
    intro r hr
    rw [List.mem_map] at hr
    obtain ⟨x, hx, rfl⟩ := hr
    unfold hexS at hx
    rw [List.mem_flatMap] at hx
    obtain ⟨y, hy, hx⟩ := hx
    have := h y hy
    simp only [List.mem_cons, List.not_mem_nil, or_false] at hx
    rcases hx with rfl | rfl
    · exact (dv_hexd _ (by omega) (by omega)).1
    · exact (dv_hexd _ (by omega) (by omega)).1
  rw [unhexR_all _ _ hd, List.nil_append]
  have e : ((hexS l).map Int.toNat).map dv = l.flatMap fun x => [x / 16, x % 16] := by
    clear hd
    unfold hexS
    induction l with
    | nil => rfl
    | cons x l ih =>
      have := h x (by simp)
      simp only [List.flatMap_cons, List.map_append, ih (fun y hy => h y (by simp [hy])), List.map_cons, List.map_nil]
      rw [(dv_hexd (x / 16) (by omega) (by omega)).2, (dv_hexd (x % 16) (by omega) (by omega)).2]
  have hlen : (((hexS l).map Int.toNat).map dv).length = 2 * l.length := by rw [List.length_map, List.length_map, hexS_len]
  rw [if_neg (by omega), hlen, e, pk_nib l h]
  simp
theorem hex_unhex (s : ByteArray) (h : (unhexS s).2.2 = 0) : strOfNums (hexS (unhexS s).1) = s := by
  unfold unhexS at h
  have hd := unhexR_ok _ _ h
  have hs : s = strOfNums ((rv (runesOf s)).map Int.ofNat) := str_low s (fun r hr => by
    have := hd r hr
    unfold isd at this
    simp at this
    omega)
  unfold unhexS
  rw [unhexR_all _ _ hd, List.nil_append] at h ⊢
  by_cases hp : ((rv (runesOf s)).map dv).length % 2 = 1
  · rw [if_pos hp] at h; exact absurd h (show ¬ (10 : Int) = 0 by decide)
  · rw [if_neg hp]
    simp only
    rw [hexS_pk _ (by omega) (fun x hx => by
      rw [List.mem_map] at hx
      obtain ⟨r, hr, rfl⟩ := hx
      exact dv_bd (hd r hr)), List.map_map]
    conv => rhs; rw [hs]
    congr 1
    apply List.map_congr_left
    intro r hr
    exact hexd_dv r (hd r hr)
theorem pk_bytes : ∀ D : List Int, (∀ x ∈ D, 0 ≤ x ∧ x < 16) → Bytes (pk D)
  | [], _ => by intro x hx; simp [pk] at hx
  | [a], h => by
    intro x hx
    have := h a (by simp)
    simp [pk] at hx
    omega
  | a :: b :: t, h => by
    intro x hx
    have ha := h a (by simp)
    have hb := h b (by simp)
    simp only [pk, List.mem_cons] at hx
    rcases hx with rfl | hx
    · omega
    · exact pk_bytes t (fun y hy => h y (by simp [hy])) x hx
theorem unhexR_bytes : ∀ (L : List Nat) (ds : List Int), (∀ x ∈ ds, 0 ≤ x ∧ x < 16) → Bytes (unhexR ds L).1 ∧ (unhexR ds L).1.length ≤ ds.length + L.length
  | [], ds, h => by
    rw [unhexR]
    split
    · exact ⟨fun x hx => by simp at hx, by simp⟩
    · exact ⟨pk_bytes ds h, by rw [pk_len]; simp; omega⟩
  | r :: t, ds, h => by
    rw [unhexR]
    split
    · rename_i e
      have ih := unhexR_bytes t (ds ++ [dv r]) (fun x hx => by
        rcases List.mem_append.1 hx with hx | hx
        · exact h x hx
        · simp at hx; subst hx; exact dv_bd e)
      refine ⟨ih.1, ?_⟩
      have := ih.2
      simp at this ⊢
      omega
    · exact ⟨fun x hx => by simp at hx, by simp⟩
theorem unhexS_bytes (s : ByteArray) : Bytes (unhexS s).1 ∧ (unhexS s).1.length ≤ s.size := by
  have h := unhexR_bytes (rv (runesOf s)) [] (by simp)
  refine ⟨h.1, ?_⟩
  have h2 := h.2
  have h3 := rns_len s s.size 0
  have h4 : (rv (runesOf s)).length = (rns s s.size 0).length := by simp [rv, runesOf]
  unfold unhexS
  simp only [List.length_nil] at h2
  omega

/-! ### decimals -/
theorem decL_len : ∀ (k n : Nat), n < 10 ^ (k + 1) → (decL n).length ≤ k + 1
  | 0, n, h => by rw [decL_lt (by simpa using h)]; simp
  | k + 1, n, h => by
    by_cases h1 : n < 10
    · rw [decL_lt h1]; simp
    · rw [decL_ge h1, List.length_append]
      have := decL_len k (n / 10) (by rw [Nat.pow_succ] at h; omega)
      simp
      omega
theorem decL_low (n : Nat) : ∀ x ∈ decL n, 48 ≤ x ∧ x ≤ 57 := by
  induction n using Nat.strongRecOn with
  | ind n ih =>
    intro x hx
    by_cases h : n < 10
    · rw [decL_lt h] at hx; simp at hx; omega
    · rw [decL_ge h, List.mem_append] at hx
      rcases hx with hx | hx
      · exact ih (n / 10) (by omega) x hx
      · simp at hx; omega
theorem numR_app : ∀ (a b : List Nat) (n : Int), numR (a ++ b) n = (numR a n).bind (numR b)
  | [], b, n => rfl
  | r :: t, b, n => by
    simp only [List.cons_append, numR]
    split
    · exact numR_app t b _
    · rfl
theorem numR_dec (n : Nat) (hn : n < 18446744073709551616) : numR ((decL n).map Int.toNat) 0 = some (n : Int) := by
  induction n using Nat.strongRecOn with
  | ind n ih =>
    by_cases h : n < 10
    · rw [decL_lt h]
      simp only [List.map_cons, List.map_nil, numR]
      rw [if_pos (by omega)]
      unfold stepN
      rw [IntKind.wrap_u64, IntKind.wrap_u64]
      congr 1
      omega
    · rw [decL_ge h, List.map_append, numR_app, ih (n / 10) (by omega) (by omega)]
      simp only [Option.bind_some, List.map_cons, List.map_nil, numR]
      rw [if_pos (by omega)]
      unfold stepN
      rw [IntKind.wrap_u64, IntKind.wrap_u64]
      congr 1
      omega
theorem num_dec (n : Nat) (hn : n < 18446744073709551616) : numS (strOfNums (decL n)) = ((n : Int), 0) := by
  have hl := decL_len 19 n (by omega)
  have hp := decL_pos n
  have hlow : Low (decL n) := fun x hx => by have := decL_low n x hx; omega
  unfold numS
  rw [strOfNums_size, if_neg (by omega), runes_low _ hlow, numR_dec n hn]
  simp
theorem dec_num (s : ByteArray) (h : (numS s).2 = 0) : strOfNums (decL (numS s).1.toNat) = s := by
  revert h
  unfold numS
  split
  · intro h; exact absurd h (show ¬ (12 : Int) = 0 by decide)
  · split
    · intro h; exact absurd h (show ¬ (12 : Int) = 0 by decide)
    · split
      · rename_i e; intro _; exact e
      · intro h; exact absurd h (show ¬ (12 : Int) = 0 by decide)
theorem numR_bd : ∀ (L : List Nat) (n m : Int), 0 ≤ n ∧ n ≤ 18446744073709551615 → numR L n = some m → 0 ≤ m ∧ m ≤ 18446744073709551615
  | [], n, m, h, e => by
    simp only [numR, Option.some.injEq] at e
    omega
  | r :: t, n, m, h, e => by
    simp only [numR] at e
    split at e
    · exact numR_bd t _ m (stepN_bd n r) e
    · cases e
theorem numS_bd (s : ByteArray) : 0 ≤ (numS s).1 ∧ (numS s).1 < 18446744073709551616 := by
  unfold numS
  split
  · simp
  · split
    · simp
    · rename_i n e
      have := numR_bd _ _ _ (by omega) e
      split
      · simp only; omega
      · simp
end Go.Proofs.YtpdinahdcedmkaaDoor.Ext
