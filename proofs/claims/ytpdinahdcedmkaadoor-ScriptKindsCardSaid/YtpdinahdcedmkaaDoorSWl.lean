/- The words of a line, byte by byte: they join to the line, each is a word alone; and the document's way of cutting a line gives the same ones. -/
import Derived.Lib.MapLaws
import Derived.Lib.RuneCount
set_option linter.unusedVariables false
set_option linter.unusedSimpArgs false
namespace Go.Proofs.YtpdinahdcedmkaaDoor.Ext
/-- The words of a text, byte by byte: the word so far; quoted, escaped, shut. -/
def wl : List UInt8 → List UInt8 → Bool → Bool → Bool → Option (List (List UInt8))
  | [], cur, q, _, _ => if q = true ∨ cur = [] then none else some [cur]
  | b :: t, cur, q, e, sh =>
    if e = true then wl t (cur ++ [b]) q false sh
    else if q = true ∧ b = 92 then wl t (cur ++ [b]) q true sh
    else if b = 34 ∧ cur = [] then wl t (cur ++ [b]) true e sh
    else if b = 34 ∧ q = true then wl t (cur ++ [b]) false e true
    else if q = true then wl t (cur ++ [b]) q e sh
    else if b = 32 ∧ cur ≠ [] then (wl t [] q e false).map (cur :: ·)
    else if b = 32 ∨ b = 34 ∨ sh = true then none
    else wl t (cur ++ [b]) q e sh
def joinW : List (List UInt8) → List UInt8
  | [] => []
  | [w] => w
  | w :: v :: t => w ++ [32] ++ joinW (v :: t)
theorem wl_nil (cur : List UInt8) (q e sh : Bool) : wl [] cur q e sh = if q = true ∨ cur = [] then none else some [cur] := by
  cases e <;> rfl
theorem wl_ne : ∀ (l cur : List UInt8) (q e sh : Bool) (ws : List (List UInt8)), wl l cur q e sh = some ws → ws ≠ []
  | [], cur, q, e, sh, ws, h => by
    rw [wl_nil] at h
    split at h
    · cases h
    · cases h; simp
  | b :: t, cur, q, e, sh, ws, h => by
    unfold wl at h
    repeat' split at h
    all_goals first
      | exact wl_ne _ _ _ _ _ _ h
      | (cases h; done)
      | (rw [Option.map_eq_some_iff] at h; obtain ⟨v, _, rfl⟩ := h; simp)
theorem wl_join : ∀ (l cur : List UInt8) (q e sh : Bool) (ws : List (List UInt8)), wl l cur q e sh = some ws → joinW ws = cur ++ l
  | [], cur, q, e, sh, ws, h => by
    rw [wl_nil] at h
    split at h
    · cases h
    · cases h; simp [joinW]
  | b :: t, cur, q, e, sh, ws, h => by
    unfold wl at h
    repeat' split at h
    all_goals first
      | (rw [wl_join _ _ _ _ _ _ h]; simp; done)
      | (cases h; done)
      | skip
    rename_i h1 h2 h3 h4 h5 h6
    rw [Option.map_eq_some_iff] at h
    obtain ⟨v, hv, rfl⟩ := h
    have h7 := wl_join _ _ _ _ _ _ hv
    have h8 := wl_ne _ _ _ _ _ _ hv
    cases v with
    | nil => exact absurd rfl h8
    | cons x y =>
      simp only [joinW]
      rw [h7, h6.1]
      simp
/-- the state of a word so far -/
def Sound (cur : List UInt8) (q e sh : Bool) : Prop := ∀ t, wl (cur ++ t) [] false false false = wl t cur q e sh
theorem sound_nil : Sound [] false false false := fun _ => rfl
theorem sound_step {b : UInt8} {cur : List UInt8} {q e sh q' e' sh' : Bool} (h : Sound cur q e sh) (hs : ∀ t, wl (b :: t) cur q e sh = wl t (cur ++ [b]) q' e' sh') : Sound (cur ++ [b]) q' e' sh' := by
  intro t
  rw [List.append_assoc, h]
  exact hs t
theorem wl_cons (b : UInt8) (t cur : List UInt8) (q e sh : Bool) : wl (b :: t) cur q e sh =
    if e = true then wl t (cur ++ [b]) q false sh
    else if q = true ∧ b = 92 then wl t (cur ++ [b]) q true sh
    else if b = 34 ∧ cur = [] then wl t (cur ++ [b]) true e sh
    else if b = 34 ∧ q = true then wl t (cur ++ [b]) false e true
    else if q = true then wl t (cur ++ [b]) q e sh
    else if b = 32 ∧ cur ≠ [] then (wl t [] q e false).map (cur :: ·)
    else if b = 32 ∨ b = 34 ∨ sh = true then none
    else wl t (cur ++ [b]) q e sh := by rw [wl]
theorem wl_each : ∀ (l cur : List UInt8) (q e sh : Bool) (ws : List (List UInt8)), Sound cur q e sh → wl l cur q e sh = some ws → ∀ w ∈ ws, wl w [] false false false = some [w]
  | [], cur, q, e, sh, ws, hs, h => by
    have h0 := h
    rw [wl_nil] at h
    split at h
    · cases h
    · cases h
      intro w hw
      obtain rfl : w = cur := by simpa using hw
      have := hs []
      rw [List.append_nil] at this
      rw [this, h0]
  | b :: t, cur, q, e, sh, ws, hs, h => by
    have hs' := fun q' e' sh' => @sound_step b cur q e sh q' e' sh' hs
    simp only [wl_cons b] at h hs'
    split at h
    · rename_i h1
      simp only [if_pos h1] at hs'
      exact wl_each _ _ _ _ _ _ (hs' _ _ _ fun _ => rfl) h
    rename_i h1
    simp only [if_neg h1] at hs'
    split at h
    · rename_i h2
      simp only [if_pos h2] at hs'
      exact wl_each _ _ _ _ _ _ (hs' _ _ _ fun _ => rfl) h
    rename_i h2
    simp only [if_neg h2] at hs'
    split at h
    · rename_i h3
      simp only [if_pos h3] at hs'
      exact wl_each _ _ _ _ _ _ (hs' _ _ _ fun _ => rfl) h
    rename_i h3
    simp only [if_neg h3] at hs'
    split at h
    · rename_i h4
      simp only [if_pos h4] at hs'
      exact wl_each _ _ _ _ _ _ (hs' _ _ _ fun _ => rfl) h
    rename_i h4
    simp only [if_neg h4] at hs'
    split at h
    · rename_i h5
      simp only [if_pos h5] at hs'
      exact wl_each _ _ _ _ _ _ (hs' _ _ _ fun _ => rfl) h
    rename_i h5
    simp only [if_neg h5] at hs'
    split at h
    · rename_i h6
      rw [Option.map_eq_some_iff] at h
      obtain ⟨v, hv, rfl⟩ := h
      obtain rfl : q = false := by simpa using h5
      obtain rfl : e = false := by simpa using h1
      intro w hw
      rcases List.mem_cons.1 hw with rfl | hw
      · have := hs []
        rw [List.append_nil, wl_nil, if_neg (by simp [h6.2])] at this
        exact this
      · exact wl_each _ _ _ _ _ _ sound_nil hv w hw
    rename_i h6
    simp only [if_neg h6] at hs'
    split at h
    · cases h
    · rename_i h7
      simp only [if_neg h7] at hs'
      exact wl_each _ _ _ _ _ _ (hs' _ _ _ fun _ => rfl) h
theorem wl_words {l : List UInt8} {ws : List (List UInt8)} (h : wl l [] false false false = some ws) : joinW ws = l ∧ ws ≠ [] ∧ ∀ w ∈ ws, wl w [] false false false = some [w] ∧ w ≠ [] := by
  refine ⟨by rw [wl_join _ _ _ _ _ _ h]; rfl, wl_ne _ _ _ _ _ _ h, fun w hw => ?_⟩
  have h1 := wl_each _ _ _ _ _ _ sound_nil h w hw
  refine ⟨h1, fun h2 => ?_⟩
  rw [h2, wl_nil] at h1
  simp at h1

/-- the text behind an opening quote: up to the closing one, and what is behind it -/
def closedL : List UInt8 → Option (List UInt8 × List UInt8)
  | [] => none
  | [b] => if b = 92 then none else if b = 34 then some ([b], []) else none
  | b :: c :: t => if b = 92 then (closedL t).map fun x => (b :: c :: x.1, x.2) else if b = 34 then some ([b], c :: t) else (closedL (c :: t)).map fun x => (b :: x.1, x.2)
def plainB (b : UInt8) : Bool := decide (b ≠ 32 ∧ b ≠ 34)
/-- the document's first word of a text, and what is behind it -/
def firstW (l : List UInt8) : Option (List UInt8 × List UInt8) :=
  match l with
  | [] => some ([], [])
  | b :: t => if b = 34 then (closedL t).map fun x => (b :: x.1, x.2) else some ((b :: t).takeWhile plainB, (b :: t).dropWhile plainB)
theorem closedL_len : ∀ (l : List UInt8) (x : List UInt8 × List UInt8), closedL l = some x → x.1 ++ x.2 = l ∧ x.1 ≠ []
  | [], x, h => by simp [closedL] at h
  | [b], x, h => by
    unfold closedL at h
    split at h
    · cases h
    · split at h
      · cases h; simp
      · cases h
  | b :: c :: t, x, h => by
    unfold closedL at h
    split at h
    · rw [Option.map_eq_some_iff] at h
      obtain ⟨y, hy, rfl⟩ := h
      have := (closedL_len _ _ hy).1
      simp [this]
    · split at h
      · cases h; simp
      · rw [Option.map_eq_some_iff] at h
        obtain ⟨y, hy, rfl⟩ := h
        have := (closedL_len _ _ hy).1
        simp [this]
theorem firstW_app {l : List UInt8} {x : List UInt8 × List UInt8} (h : firstW l = some x) : x.1 ++ x.2 = l := by
  unfold firstW at h
  split at h
  · cases h; rfl
  · split at h
    · rw [Option.map_eq_some_iff] at h
      obtain ⟨y, hy, rfl⟩ := h
      simp [(closedL_len _ _ hy).1]
    · cases h
      exact List.takeWhile_append_dropWhile
def refL : Nat → List UInt8 → Option (List (List UInt8))
  | 0, _ => none
  | k + 1, l => match firstW l with
    | none => none
    | some (w, r) => if w = [] then none else match r with
      | [] => some [w]
      | b :: t => if b = 32 then (refL k t).map (w :: ·) else none
/-- behind a word: -/
def restW (cur r : List UInt8) : Option (List (List UInt8)) :=
  match r with
  | [] => some [cur]
  | b :: t => if b = 32 then (wl t [] false false false).map (cur :: ·) else none
theorem wl_plain : ∀ (l cur : List UInt8), cur ≠ [] → wl l cur false false false = restW (cur ++ l.takeWhile plainB) (l.dropWhile plainB)
  | [], cur, hc => by simp [wl, restW, hc]
  | b :: t, cur, hc => by
    rw [wl_cons]
    by_cases hp : b ≠ 32 ∧ b ≠ 34
    · rw [if_neg (by simp), if_neg (by simp), if_neg (by simp [hc]), if_neg (by simp), if_neg (by simp), if_neg (by simp [hp]), if_neg (by simp [hp]), wl_plain t _ (by simp)]
      simp [List.takeWhile_cons, List.dropWhile_cons, plainB, hp]
    · by_cases h32 : b = 32
      · subst h32
        simp [List.takeWhile_cons, List.dropWhile_cons, plainB, restW, hc]
      · obtain rfl : b = 34 := by simp only [not_and] at hp; exact Classical.not_not.1 (hp h32)
        simp [List.takeWhile_cons, List.dropWhile_cons, plainB, restW, hc]
theorem wl_shut (r cur : List UInt8) (hc : cur ≠ []) : wl r cur false false true = restW cur r := by
  cases r with
  | nil => simp [wl, restW, hc]
  | cons b t =>
    rw [wl_cons]
    by_cases h32 : b = 32
    · subst h32; simp [restW, hc]
    · simp [restW, hc, h32]
theorem wl_quoted : ∀ (l cur : List UInt8) (sh : Bool), cur ≠ [] → wl l cur true false sh = (closedL l).bind fun x => wl x.2 (cur ++ x.1) false false true
  | [], cur, sh, hc => by simp [wl, closedL]
  | [b], cur, sh, hc => by
    rw [wl_cons]
    unfold closedL
    by_cases h92 : b = 92
    · subst h92; simp [wl]
    · by_cases h34 : b = 34
      · subst h34; simp [hc, wl]
      · simp [h92, h34, wl]
  | b :: c :: t, cur, sh, hc => by
    rw [wl_cons]
    unfold closedL
    by_cases h92 : b = 92
    · subst h92
      rw [if_neg (by simp), if_pos (by simp), wl_cons, if_pos rfl, wl_quoted t _ sh (by simp)]
      simp [Option.bind_map, Function.comp_def]
    · by_cases h34 : b = 34
      · subst h34; simp [hc]
      · rw [if_neg (by simp), if_neg (by simp [h92]), if_neg (by simp [hc]), if_neg (by simp [h34]), if_pos rfl, wl_quoted (c :: t) _ sh (by simp)]
        simp [h92, h34, Option.bind_map, Function.comp_def]
theorem wl_first (l : List UInt8) : wl l [] false false false = (firstW l).bind fun x => if x.1 = [] then none else restW x.1 x.2 := by
  cases l with
  | nil => simp [wl, firstW]
  | cons b t =>
    unfold firstW
    by_cases h34 : b = 34
    · subst h34
      rw [wl_cons]
      simp only [if_neg, if_pos, if_true, List.nil_append, Bool.false_eq_true, if_false, false_and, and_self]
      rw [wl_quoted t [34] false (by simp)]
      cases h : closedL t with
      | none => simp
      | some x =>
        simp only [Option.bind_some, Option.map_some]
        rw [wl_shut _ _ (by simp)]
        simp
    · rw [wl_cons]
      simp only [if_neg, if_pos, if_true, List.nil_append, Bool.false_eq_true, if_false, false_and, and_self, h34, ne_eq, not_true_eq_false, and_false, or_false, false_or]
      by_cases h32 : b = 32
      · subst h32
        simp [List.takeWhile_cons, List.dropWhile_cons, plainB]
      · rw [if_neg h32, wl_plain t [b] (by simp)]
        simp [List.takeWhile_cons, List.dropWhile_cons, plainB, h32, h34]
theorem refL_wl : ∀ (k : Nat) (l : List UInt8), l.length < k → refL k l = wl l [] false false false
  | 0, l, h => by omega
  | k + 1, l, h => by
    rw [wl_first]
    unfold refL
    cases hf : firstW l with
    | none => rfl
    | some x =>
      obtain ⟨w, r⟩ := x
      have ha := congrArg List.length (firstW_app hf)
      simp only [List.length_append] at ha
      simp only [Option.bind_some]
      by_cases hw : w = []
      · simp [hw]
      · rw [if_neg hw, if_neg hw]
        cases r with
        | nil => rfl
        | cons b t =>
          simp only [restW]
          by_cases h32 : b = 32
          · rw [if_pos h32, if_pos h32, refL_wl k t (by simp at ha; omega)]
          · rw [if_neg h32, if_neg h32]


theorem drop_consB (s : ByteArray) (pos : Nat) (h : pos < s.size) : s.data.toList.drop pos = s.data.toList.getD pos 0 :: s.data.toList.drop (pos + 1) := by
  have hl : pos < s.data.toList.length := by rw [Array.length_toList]; exact h
  rw [List.drop_eq_getElem_cons hl, List.getD_eq_getElem?_getD, List.getElem?_eq_getElem hl]
  rfl
theorem rune_low (s : ByteArray) (pos : Nat) (h : pos < s.size) (hr : (Utf8.decode s pos).1 < 128) : (Utf8.decode s pos).2 = 1 ∧ (s.data.toList.getD pos 0).toNat = (Utf8.decode s pos).1 := by
  rw [Lib.decode_N] at hr ⊢
  generalize s.data.toList.length - pos = n at *
  generalize (s.data.toList.getD pos 0).toNat = b0 at *
  generalize (s.data.toList.getD (pos + 1) 0).toNat = b1 at *
  generalize (s.data.toList.getD (pos + 2) 0).toNat = b2 at *
  generalize (s.data.toList.getD (pos + 3) 0).toNat = b3 at *
  rcases Lib.decodeN_shape n b0 b1 b2 b3 with ⟨c, e⟩ | ⟨c1, c2, c3, cv, e⟩ | ⟨c1, c2, c3, c4, cv, cs, e⟩ | ⟨c1, c2, c3, c4, c5, cv, cw, e⟩ | e <;> rw [e] at hr ⊢ <;> simp only at hr ⊢ <;> first | exact ⟨trivial, trivial⟩ | omega
theorem rune_high (s : ByteArray) (pos : Nat) (h : pos < s.size) (hr : 128 ≤ (Utf8.decode s pos).1) : ∀ i, i < (Utf8.decode s pos).2 → 128 ≤ (s.data.toList.getD (pos + i) 0).toNat := by
  have hd := Lib.decode_N s pos
  intro i hi
  rw [hd] at hr hi
  generalize s.data.toList.length - pos = n at *
  have key : ∀ b0 b1 b2 b3 : Nat, 128 ≤ (Lib.decodeN n b0 b1 b2 b3).1 → i < (Lib.decodeN n b0 b1 b2 b3).2 → (i = 0 ∧ 128 ≤ b0) ∨ (i = 1 ∧ 128 ≤ b1) ∨ (i = 2 ∧ 128 ≤ b2) ∨ (i = 3 ∧ 128 ≤ b3) := by
    intro b0 b1 b2 b3 hr hi
    by_cases h0 : b0 < 128
    · rw [Lib.decodeN_ascii n b0 b1 b2 b3 h0] at hr
      simp only at hr
      omega
    rcases Lib.decodeN_shape n b0 b1 b2 b3 with ⟨c, e⟩ | ⟨c1, c2, c3, cv, e⟩ | ⟨c1, c2, c3, c4, cv, cs, e⟩ | ⟨c1, c2, c3, c4, c5, cv, cw, e⟩ | e <;> rw [e] at hr hi <;> simp only at hr hi <;> omega
  rcases key _ _ _ _ hr hi with ⟨rfl, h1⟩ | ⟨rfl, h1⟩ | ⟨rfl, h1⟩ | ⟨rfl, h1⟩ <;> exact h1
/-- the bytes of a place up to another one -/
def cut (s : ByteArray) (a b : Nat) : List UInt8 := (s.data.toList.drop a).take (b - a)
theorem cut_self (s : ByteArray) (a : Nat) : cut s a a = [] := by simp [cut]
theorem cut_ne (s : ByteArray) (a b : Nat) (h : a < b) (hb : b ≤ s.size) : cut s a b ≠ [] := by
  have hl : s.data.toList.length = s.size := by rw [Array.length_toList]; rfl
  intro h0
  have := congrArg List.length h0
  simp only [cut, List.length_take, List.length_drop, List.length_nil] at this
  omega
theorem cut_snoc (s : ByteArray) (a b : Nat) (h : a ≤ b) (hb : b < s.size) : cut s a (b + 1) = cut s a b ++ [s.data.toList.getD b 0] := by
  have hl : s.data.toList.length = s.size := by rw [Array.length_toList]; rfl
  unfold cut
  rw [show b + 1 - a = (b - a) + 1 by omega, List.take_add_one, List.getElem?_drop, show a + (b - a) = b by omega, List.getD_eq_getElem?_getD, List.getElem?_eq_getElem (by omega)]
  rfl
theorem cut_data (s : ByteArray) (a b : Nat) : (s.extract a b).data.toList = cut s a b := by
  simp [cut, ByteArray.data_extract, Array.toList_extract, List.extract_eq_take_drop]
theorem cut_end (s : ByteArray) (a : Nat) : cut s a s.size = s.data.toList.drop a := by
  have hl : s.data.toList.length = s.size := by rw [Array.length_toList]; rfl
  unfold cut
  exact List.take_of_length_le (by rw [List.length_drop]; omega)
/-- bytes that are neither a blank, nor a quote, nor a backslash -/
theorem wl_other (s : ByteArray) (fr : Nat) (q sh : Bool) (hsh : sh = true → q = true) : ∀ (k pos : Nat), fr ≤ pos → pos + k ≤ s.size → (∀ i, i < k → 128 ≤ (s.data.toList.getD (pos + i) 0).toNat) →
    wl (s.data.toList.drop pos) (cut s fr pos) q false sh = wl (s.data.toList.drop (pos + k)) (cut s fr (pos + k)) q false sh
  | 0, pos, _, _, _ => rfl
  | k + 1, pos, hf, hp, hh => by
    have h0 := hh 0 (by omega)
    rw [Nat.add_zero] at h0
    have n92 : s.data.toList.getD pos 0 ≠ 92 := fun h => by rw [h] at h0; revert h0; decide
    have n34 : s.data.toList.getD pos 0 ≠ 34 := fun h => by rw [h] at h0; revert h0; decide
    have n32 : s.data.toList.getD pos 0 ≠ 32 := fun h => by rw [h] at h0; revert h0; decide
    rw [drop_consB s pos (by omega), wl_cons, if_neg (by simp), if_neg (fun x => n92 x.2), if_neg (fun x => n34 x.1), if_neg (fun x => n34 x.1), ← cut_snoc s fr pos hf (by omega)]
    have ih := wl_other s fr q sh hsh k (pos + 1) (by omega) (by omega) (fun i hi => by have := hh (i + 1) (by omega); rwa [show pos + (i + 1) = pos + 1 + i by omega] at this)
    rw [show pos + 1 + k = pos + (k + 1) by omega] at ih
    by_cases hq : q = true
    · rw [if_pos hq]; exact ih
    · rw [if_neg hq, if_neg (fun x => n32 x.1), if_neg (fun x => x.elim n32 (fun y => y.elim n34 (fun z => hq (hsh z))))]
      exact ih

/-- what a rune does -/
theorem wl_esc (s : ByteArray) (fr pos : Nat) (sh : Bool) (hf : fr ≤ pos) (h : pos < s.size) (hw : pos + (Utf8.decode s pos).2 ≤ s.size) (hw1 : 1 ≤ (Utf8.decode s pos).2) :
    wl (s.data.toList.drop pos) (cut s fr pos) true true sh = wl (s.data.toList.drop (pos + (Utf8.decode s pos).2)) (cut s fr (pos + (Utf8.decode s pos).2)) true false sh := by
  rw [drop_consB s pos h, wl_cons, if_pos rfl, ← cut_snoc s fr pos hf h]
  rcases Nat.lt_or_ge (Utf8.decode s pos).1 128 with hr | hr
  · rw [(rune_low s pos h hr).1]
  · have hh := rune_high s pos h hr
    generalize (Utf8.decode s pos).2 = k at *
    rw [wl_other s fr true sh (fun _ => rfl) (k - 1) (pos + 1) (by omega) (by omega) (fun i hi => by have := hh (i + 1) (by omega); rwa [show pos + (i + 1) = pos + 1 + i by omega] at this)]
    rw [show pos + 1 + (k - 1) = pos + k by omega]
theorem wl_rune (s : ByteArray) (fr pos : Nat) (q sh : Bool) (hsh : sh = true → q = true) (hf : fr ≤ pos) (h : pos < s.size) (hw : pos + (Utf8.decode s pos).2 ≤ s.size) (hr : (Utf8.decode s pos).1 ≠ 34) (hr2 : (Utf8.decode s pos).1 ≠ 32 ∨ q = true) (hr3 : (Utf8.decode s pos).1 ≠ 92 ∨ q = false) :
    wl (s.data.toList.drop pos) (cut s fr pos) q false sh = wl (s.data.toList.drop (pos + (Utf8.decode s pos).2)) (cut s fr (pos + (Utf8.decode s pos).2)) q false sh := by
  rcases Nat.lt_or_ge (Utf8.decode s pos).1 128 with hl | hl
  · obtain ⟨e1, e2⟩ := rune_low s pos h hl
    rw [e1]
    rw [← e2] at hr hr2 hr3
    have n34 : s.data.toList.getD pos 0 ≠ 34 := fun h => hr (by rw [h]; rfl)
    have n32 : s.data.toList.getD pos 0 ≠ 32 ∨ q = true := hr2.imp (fun x h => x (by rw [h]; rfl)) id
    have n92 : s.data.toList.getD pos 0 ≠ 92 ∨ q = false := hr3.imp (fun x h => x (by rw [h]; rfl)) id
    rw [drop_consB s pos h, wl_cons, if_neg (by simp), if_neg (fun x => n92.elim (fun y => y x.2) (fun y => by rw [y] at x; exact absurd x.1 (by simp))), if_neg (fun x => n34 x.1), if_neg (fun x => n34 x.1), ← cut_snoc s fr pos hf h]
    by_cases hq : q = true
    · rw [if_pos hq]
    · have n32' : s.data.toList.getD pos 0 ≠ 32 := n32.resolve_right hq
      rw [if_neg hq, if_neg (fun x => n32' x.1), if_neg (fun x => x.elim n32' (fun y => y.elim n34 (fun z => hq (hsh z))))]
  · exact wl_other s fr q sh hsh _ pos hf hw (rune_high s pos h hl)
theorem wl_bs (s : ByteArray) (fr pos : Nat) (sh : Bool) (hf : fr ≤ pos) (h : pos < s.size) (hr : (Utf8.decode s pos).1 = 92) :
    wl (s.data.toList.drop pos) (cut s fr pos) true false sh = wl (s.data.toList.drop (pos + 1)) (cut s fr (pos + 1)) true true sh ∧ (Utf8.decode s pos).2 = 1 := by
  obtain ⟨e1, e2⟩ := rune_low s pos h (by omega)
  rw [hr] at e2
  have e3 : s.data.toList.getD pos 0 = 92 := UInt8.toNat_inj.1 (by rw [e2]; rfl)
  exact ⟨by rw [drop_consB s pos h, wl_cons, if_neg (by simp), if_pos (by simp only [e3, and_self]), ← cut_snoc s fr pos hf h], e1⟩
/-- a quote -/
theorem wl_q (s : ByteArray) (fr pos : Nat) (q sh : Bool) (hf : fr ≤ pos) (h : pos < s.size) (hr : (Utf8.decode s pos).1 = 34) :
    wl (s.data.toList.drop pos) (cut s fr pos) q false sh = (if fr = pos then wl (s.data.toList.drop (pos + 1)) (cut s fr (pos + 1)) true false sh else if q = true then wl (s.data.toList.drop (pos + 1)) (cut s fr (pos + 1)) false false true else none) ∧ (Utf8.decode s pos).2 = 1 := by
  obtain ⟨e1, e2⟩ := rune_low s pos h (by omega)
  rw [hr] at e2
  have e3 : s.data.toList.getD pos 0 = 34 := UInt8.toNat_inj.1 (by rw [e2]; rfl)
  refine ⟨?_, e1⟩
  rw [drop_consB s pos h, wl_cons, if_neg (by simp), if_neg (by rw [e3]; simp), ← cut_snoc s fr pos hf h, e3]
  by_cases hp : fr = pos
  · rw [if_pos hp, if_pos ⟨rfl, by rw [hp]; exact cut_self s pos⟩]
  · have := cut_ne s fr pos (by omega) (by omega)
    rw [if_neg hp, if_neg (fun x => this x.2)]
    by_cases hq : q = true
    · rw [if_pos ⟨rfl, hq⟩, if_pos hq]
    · rw [if_neg (fun x => hq x.2), if_neg hq, if_neg hq, if_neg (by simp), if_pos (by simp)]
/-- a blank outside of quotes -/
theorem wl_b (s : ByteArray) (fr pos : Nat) (sh : Bool) (hf : fr ≤ pos) (h : pos < s.size) (hr : (Utf8.decode s pos).1 = 32) :
    wl (s.data.toList.drop pos) (cut s fr pos) false false sh = (if fr = pos then none else (wl (s.data.toList.drop (pos + 1)) (cut s (pos + 1) (pos + 1)) false false false).map (cut s fr pos :: ·)) ∧ (Utf8.decode s pos).2 = 1 := by
  obtain ⟨e1, e2⟩ := rune_low s pos h (by omega)
  rw [hr] at e2
  have e3 : s.data.toList.getD pos 0 = 32 := UInt8.toNat_inj.1 (by rw [e2]; rfl)
  refine ⟨?_, e1⟩
  rw [drop_consB s pos h, wl_cons, if_neg (by simp), if_neg (by simp), if_neg (by rw [e3]; simp), if_neg (by simp), if_neg (by simp), e3]
  by_cases hp : fr = pos
  · rw [if_pos hp, if_neg (fun x => x.2 (by rw [hp]; exact cut_self s pos)), if_pos (by simp)]
  · have := cut_ne s fr pos (by omega) (by omega)
    rw [if_neg hp, if_pos ⟨rfl, this⟩, cut_self]
/-- any rune but a blank behind a closing quote -/
theorem wl_sh (s : ByteArray) (fr pos : Nat) (hf : fr < pos) (h : pos < s.size) (hr : (Utf8.decode s pos).1 ≠ 32) :
    wl (s.data.toList.drop pos) (cut s fr pos) false false true = none := by
  have n32 : s.data.toList.getD pos 0 ≠ 32 := by
    intro e
    rcases Nat.lt_or_ge (Utf8.decode s pos).1 128 with hl | hl
    · have := (rune_low s pos h hl).2
      rw [e] at this
      exact hr this.symm
    · have hw := Lib.decode_width_pos s pos h
      have := rune_high s pos h hl 0 hw
      rw [Nat.add_zero, e] at this
      revert this
      decide
  have := cut_ne s fr pos hf (by omega)
  rw [drop_consB s pos h, wl_cons, if_neg (by simp), if_neg (by simp), if_neg (fun x => this x.2), if_neg (by simp), if_neg (by simp), if_neg (fun x => n32 x.1), if_pos (.inr (.inr rfl))]
theorem wl_end (s : ByteArray) (fr pos : Nat) (q e sh : Bool) (hf : fr ≤ pos) (h : pos = s.size) : wl (s.data.toList.drop pos) (cut s fr pos) q e sh = if q = true ∨ fr = pos then none else some [cut s fr s.size] := by
  subst h
  rw [List.drop_of_length_le (by rw [Array.length_toList]; exact Nat.le_refl _), wl_nil]
  by_cases hp : fr = s.size
  · subst hp; simp [cut_self]
  · have := cut_ne s fr s.size (by omega) (by omega)
    simp [this, hp]
end Go.Proofs.YtpdinahdcedmkaaDoor.Ext
