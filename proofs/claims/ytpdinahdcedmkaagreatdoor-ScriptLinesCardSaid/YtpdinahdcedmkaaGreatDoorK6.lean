import Derived.Lib.MapLaws
import Derived.Lib.RuneCount
import Derived.Test.YtpdinahdcedmkaaGreatDoorK5
import Derived.WalkSmall
import Derived.Test.YtpdinahdcedmkaaGreatDoorK4
set_option maxHeartbeats 8000000
set_option maxRecDepth 100000
/- The words of a line, byte by byte: they join to the line, each is a word alone; and the document's way of cutting a line gives the same ones. -/
set_option linter.unusedVariables false
set_option linter.unusedSimpArgs false
namespace Go.Proofs.YtpdinahdcedmkaaGreatDoor.Ext
/-- The words of a text, byte by byte: the word so far; quoted, escaped, shut. -/
def wl : List UInt8 -> List UInt8 -> Bool -> Bool -> Bool -> Option (List (List UInt8))
 | [], cur, q, _, _ => if q = true \/ cur = [] then none else some [cur]
 | b :: t, cur, q, e, sh =>
   if e = true then wl t (cur ++ [b]) q false sh
   else if q = true /\ b = 92 then wl t (cur ++ [b]) q true sh
   else if b = 34 /\ cur = [] then wl t (cur ++ [b]) true e sh
   else if b = 34 /\ q = true then wl t (cur ++ [b]) false e true
   else if q = true then wl t (cur ++ [b]) q e sh
   else if b = 32 /\ cur ≠ [] then (wl t [] q e false).map (cur :: ·)
   else if b = 32 \/ b = 34 \/ sh = true then none
   else wl t (cur ++ [b]) q e sh
def joinW : List (List UInt8) -> List UInt8
 | [] => []
 | [w] => w
 | w :: v :: t => w ++ [32] ++ joinW (v :: t)
theorem wl_nil (cur : List UInt8) (q e sh : Bool) : wl [] cur q e sh = if q = true \/ cur = [] then none else some [cur] := by
 cases e <;> rfl
theorem wl_ne : ∀ (l cur : List UInt8) (q e sh : Bool) (ws : List (List UInt8)), wl l cur q e sh = some ws -> ws ≠ []
 | [], cur, q, e, sh, ws, h => by
   rw [wl_nil] at h
   split at h
   · cases h
   · cases h; simp
 | b :: t, cur, q, e, sh, ws, h => by
   unfold wl at h
   repeat' split at h
   all_goals first
    | exact wl_ne _ _ _ _ _ _ h
    | (cases h; done)
    | (rw [Option.map_eq_some_iff] at h; obtain ⟨v, _, rfl⟩ := h; simp)
theorem wl_join : ∀ (l cur : List UInt8) (q e sh : Bool) (ws : List (List UInt8)), wl l cur q e sh = some ws -> joinW ws = cur ++ l
 | [], cur, q, e, sh, ws, h => by
   rw [wl_nil] at h
   split at h
   · cases h
   · cases h; simp [joinW]
 | b :: t, cur, q, e, sh, ws, h => by
   unfold wl at h
   repeat' split at h
   all_goals first
    | (rw [wl_join _ _ _ _ _ _ h]; simp; done)
    | (cases h; done)
    | skip
   rename_i h1 h2 h3 h4 h5 h6
   rw [Option.map_eq_some_iff] at h
   obtain ⟨v, hv, rfl⟩ := h
   have h7 := wl_join _ _ _ _ _ _ hv
   have h8 := wl_ne _ _ _ _ _ _ hv
   cases v with
   | nil => exact absurd rfl h8
   | cons x y =>
     simp only [joinW]
     rw [h7, h6.1]
     simp
/-- the state of a word so far -/
def Sound (cur : List UInt8) (q e sh : Bool) : Prop := ∀ t, wl (cur ++ t) [] false false false = wl t cur q e sh
theorem sound_nil : Sound [] false false false := fun _ => rfl
theorem sound_step {b : UInt8} {cur : List UInt8} {q e sh q' e' sh' : Bool} (h : Sound cur q e sh) (hs : ∀ t, wl (b :: t) cur q e sh = wl t (cur ++ [b]) q' e' sh') : Sound (cur ++ [b]) q' e' sh' := by
 intro t
 rw [List.append_assoc, h]
 exact hs t
theorem wl_cons (b : UInt8) (t cur : List UInt8) (q e sh : Bool) : wl (b :: t) cur q e sh =
 if e = true then wl t (cur ++ [b]) q false sh
 else if q = true /\ b = 92 then wl t (cur ++ [b]) q true sh
 else if b = 34 /\ cur = [] then wl t (cur ++ [b]) true e sh
 else if b = 34 /\ q = true then wl t (cur ++ [b]) false e true
 else if q = true then wl t (cur ++ [b]) q e sh
 else if b = 32 /\ cur ≠ [] then (wl t [] q e false).map (cur :: ·)
 else if b = 32 \/ b = 34 \/ sh = true then none
 else wl t (cur ++ [b]) q e sh := by rw [wl]
theorem wl_each : ∀ (l cur : List UInt8) (q e sh : Bool) (ws : List (List UInt8)), Sound cur q e sh -> wl l cur q e sh = some ws -> ∀ w ∈ ws, wl w [] false false false = some [w]
 | [], cur, q, e, sh, ws, hs, h => by
   have h0 := h
   rw [wl_nil] at h
   split at h
   · cases h
   · cases h
     intro w hw
     obtain rfl : w = cur := by simpa using hw
     have := hs []
     rw [List.append_nil] at this
     rw [this, h0]
 | b :: t, cur, q, e, sh, ws, hs, h => by
   have hs' := fun q' e' sh' => @sound_step b cur q e sh q' e' sh' hs
   simp only [wl_cons b] at h hs'
   split at h
   · rename_i h1
     simp only [if_pos h1] at hs'
     exact wl_each _ _ _ _ _ _ (hs' _ _ _ fun _ => rfl) h
   rename_i h1
   simp only [if_neg h1] at hs'
   split at h
   · rename_i h2
     simp only [if_pos h2] at hs'
     exact wl_each _ _ _ _ _ _ (hs' _ _ _ fun _ => rfl) h
   rename_i h2
   simp only [if_neg h2] at hs'
   split at h
   · rename_i h3
     simp only [if_pos h3] at hs'
     exact wl_each _ _ _ _ _ _ (hs' _ _ _ fun _ => rfl) h
   rename_i h3
   simp only [if_neg h3] at hs'
   split at h
   · rename_i h4
     simp only [if_pos h4] at hs'
     exact wl_each _ _ _ _ _ _ (hs' _ _ _ fun _ => rfl) h
   rename_i h4
   simp only [if_neg h4] at hs'
   split at h
   · rename_i h5
     simp only [if_pos h5] at hs'
     exact wl_each _ _ _ _ _ _ (hs' _ _ _ fun _ => rfl) h
   rename_i h5
   simp only [if_neg h5] at hs'
   split at h
   · rename_i h6
     rw [Option.map_eq_some_iff] at h
     obtain ⟨v, hv, rfl⟩ := h
     obtain rfl : q = false := by simpa using h5
     obtain rfl : e = false := by simpa using h1
     intro w hw
     rcases List.mem_cons.1 hw with rfl | hw
     · have := hs []
       rw [List.append_nil, wl_nil, if_neg (by simp [h6.2])] at this
       exact this
     · exact wl_each _ _ _ _ _ _ sound_nil hv w hw
   rename_i h6
   simp only [if_neg h6] at hs'
   split at h
   · cases h
   · rename_i h7
     simp only [if_neg h7] at hs'
     exact wl_each _ _ _ _ _ _ (hs' _ _ _ fun _ => rfl) h
theorem wl_words {l : List UInt8} {ws : List (List UInt8)} (h : wl l [] false false false = some ws) : joinW ws = l /\ ws ≠ [] /\ ∀ w ∈ ws, wl w [] false false false = some [w] /\ w ≠ [] := by
 refine ⟨by rw [wl_join _ _ _ _ _ _ h]; rfl, wl_ne _ _ _ _ _ _ h, fun w hw => ?_⟩
 have h1 := wl_each _ _ _ _ _ _ sound_nil h w hw
 refine ⟨h1, fun h2 => ?_⟩
 rw [h2, wl_nil] at h1
 simp at h1
/-- the text behind an opening quote: up to the closing one, and what is behind it -/
def closedL : List UInt8 -> Option (List UInt8 × List UInt8)
 | [] => none
 | [b] => if b = 92 then none else if b = 34 then some ([b], []) else none
 | b :: c :: t => if b = 92 then (closedL t).map fun x => (b :: c :: x.1, x.2) else if b = 34 then some ([b], c :: t) else (closedL (c :: t)).map fun x => (b :: x.1, x.2)
def plainB (b : UInt8) : Bool := decide (b ≠ 32 /\ b ≠ 34)
/-- the document's first word of a text, and what is behind it -/
def firstW (l : List UInt8) : Option (List UInt8 × List UInt8) :=
 match l with
 | [] => some ([], [])
 | b :: t => if b = 34 then (closedL t).map fun x => (b :: x.1, x.2) else some ((b :: t).takeWhile plainB, (b :: t).dropWhile plainB)
theorem closedL_len : ∀ (l : List UInt8) (x : List UInt8 × List UInt8), closedL l = some x -> x.1 ++ x.2 = l /\ x.1 ≠ []
 | [], x, h => by simp [closedL] at h
 | [b], x, h => by
   unfold closedL at h
   split at h
   · cases h
   · split at h
     · cases h; simp
     · cases h
 | b :: c :: t, x, h => by
   unfold closedL at h
   split at h
   · rw [Option.map_eq_some_iff] at h
     obtain ⟨y, hy, rfl⟩ := h
     have := (closedL_len _ _ hy).1
     simp [this]
   · split at h
     · cases h; simp
     · rw [Option.map_eq_some_iff] at h
       obtain ⟨y, hy, rfl⟩ := h
       have := (closedL_len _ _ hy).1
       simp [this]
/-- behind a word: -/
def restW (cur r : List UInt8) : Option (List (List UInt8)) :=
 match r with
 | [] => some [cur]
 | b :: t => if b = 32 then (wl t [] false false false).map (cur :: ·) else none
theorem wl_plain : ∀ (l cur : List UInt8), cur ≠ [] -> wl l cur false false false = restW (cur ++ l.takeWhile plainB) (l.dropWhile plainB)
 | [], cur, hc => by simp [wl, restW, hc]
 | b :: t, cur, hc => by
   rw [wl_cons]
   by_cases hp : b ≠ 32 /\ b ≠ 34
   · rw [if_neg (by simp), if_neg (by simp), if_neg (by simp [hc]), if_neg (by simp), if_neg (by simp), if_neg (by simp [hp]), if_neg (by simp [hp]), wl_plain t _ (by simp)]
     simp [List.takeWhile_cons, List.dropWhile_cons, plainB, hp]
   · by_cases h32 : b = 32
     · subst h32
       simp [List.takeWhile_cons, List.dropWhile_cons, plainB, restW, hc]
     · obtain rfl : b = 34 := by simp only [not_and] at hp; exact Classical.not_not.1 (hp h32)
       simp [List.takeWhile_cons, List.dropWhile_cons, plainB, restW, hc]
theorem wl_shut (r cur : List UInt8) (hc : cur ≠ []) : wl r cur false false true = restW cur r := by
 cases r with
 | nil => simp [wl, restW, hc]
 | cons b t =>
   rw [wl_cons]
   by_cases h32 : b = 32
   · subst h32; simp [restW, hc]
   · simp [restW, hc, h32]
theorem wl_quoted : ∀ (l cur : List UInt8) (sh : Bool), cur ≠ [] -> wl l cur true false sh = (closedL l).bind fun x => wl x.2 (cur ++ x.1) false false true
 | [], cur, sh, hc => by simp [wl, closedL]
 | [b], cur, sh, hc => by
   rw [wl_cons]
   unfold closedL
   by_cases h92 : b = 92
   · subst h92; simp [wl]
   · by_cases h34 : b = 34
     · subst h34; simp [hc, wl]
     · simp [h92, h34, wl]
 | b :: c :: t, cur, sh, hc => by
   rw [wl_cons]
   unfold closedL
   by_cases h92 : b = 92
   · subst h92
     rw [if_neg (by simp), if_pos (by simp), wl_cons, if_pos rfl, wl_quoted t _ sh (by simp)]
     simp [Option.bind_map, Function.comp_def]
   · by_cases h34 : b = 34
     · subst h34; simp [hc]
     · rw [if_neg (by simp), if_neg (by simp [h92]), if_neg (by simp [hc]), if_neg (by simp [h34]), if_pos rfl, wl_quoted (c :: t) _ sh (by simp)]
       simp [h92, h34, Option.bind_map, Function.comp_def]
theorem wl_first (l : List UInt8) : wl l [] false false false = (firstW l).bind fun x => if x.1 = [] then none else restW x.1 x.2 := by
 cases l with
 | nil => simp [wl, firstW]
 | cons b t =>
   unfold firstW
   by_cases h34 : b = 34
   · subst h34
     rw [wl_cons]
     simp only [if_neg, if_pos, if_true, List.nil_append, Bool.false_eq_true, if_false, false_and, and_self]
     rw [wl_quoted t [34] false (by simp)]
     cases h : closedL t with
     | none => simp
     | some x =>
       simp only [Option.bind_some, Option.map_some]
       rw [wl_shut _ _ (by simp)]
       simp
   · rw [wl_cons]
     simp only [if_neg, if_pos, if_true, List.nil_append, Bool.false_eq_true, if_false, false_and, and_self, h34, ne_eq, not_true_eq_false, and_false, or_false, false_or]
     by_cases h32 : b = 32
     · subst h32
       simp [List.takeWhile_cons, List.dropWhile_cons, plainB]
     · rw [if_neg h32, wl_plain t [b] (by simp)]
       simp [List.takeWhile_cons, List.dropWhile_cons, plainB, h32, h34]
theorem drop_consB (s : ByteArray) (pos : Nat) (h : pos < s.size) : s.data.toList.drop pos = s.data.toList.getD pos 0 :: s.data.toList.drop (pos + 1) := by
 have hl : pos < s.data.toList.length := by rw [Array.length_toList]; exact h
 rw [List.drop_eq_getElem_cons hl, List.getD_eq_getElem?_getD, List.getElem?_eq_getElem hl]
 rfl
theorem rune_low (s : ByteArray) (pos : Nat) (h : pos < s.size) (hr : (Utf8.decode s pos).1 < 128) : (Utf8.decode s pos).2 = 1 /\ (s.data.toList.getD pos 0).toNat = (Utf8.decode s pos).1 := by
 rw [Lib.decode_N] at hr ⊢
 generalize s.data.toList.length - pos = n at *
 generalize (s.data.toList.getD pos 0).toNat = b0 at *
 generalize (s.data.toList.getD (pos + 1) 0).toNat = b1 at *
 generalize (s.data.toList.getD (pos + 2) 0).toNat = b2 at *
 generalize (s.data.toList.getD (pos + 3) 0).toNat = b3 at *
 rcases Lib.decodeN_shape n b0 b1 b2 b3 with ⟨c, e⟩ | ⟨c1, c2, c3, cv, e⟩ | ⟨c1, c2, c3, c4, cv, cs, e⟩ | ⟨c1, c2, c3, c4, c5, cv, cw, e⟩ | e <;> rw [e] at hr ⊢ <;> simp only at hr ⊢ <;> first | exact ⟨trivial, trivial⟩ | omega
theorem rune_high (s : ByteArray) (pos : Nat) (h : pos < s.size) (hr : 128 <= (Utf8.decode s pos).1) : ∀ i, i < (Utf8.decode s pos).2 -> 128 <= (s.data.toList.getD (pos + i) 0).toNat := by
 have hd := Lib.decode_N s pos
 intro i hi
 rw [hd] at hr hi
 generalize s.data.toList.length - pos = n at *
 have key : ∀ b0 b1 b2 b3 : Nat, 128 <= (Lib.decodeN n b0 b1 b2 b3).1 -> i < (Lib.decodeN n b0 b1 b2 b3).2 -> (i = 0 /\ 128 <= b0) \/ (i = 1 /\ 128 <= b1) \/ (i = 2 /\ 128 <= b2) \/ (i = 3 /\ 128 <= b3) := by
  intro b0 b1 b2 b3 hr hi
  by_cases h0 : b0 < 128
  · rw [Lib.decodeN_ascii n b0 b1 b2 b3 h0] at hr
    simp only at hr
    omega
  rcases Lib.decodeN_shape n b0 b1 b2 b3 with ⟨c, e⟩ | ⟨c1, c2, c3, cv, e⟩ | ⟨c1, c2, c3, c4, cv, cs, e⟩ | ⟨c1, c2, c3, c4, c5, cv, cw, e⟩ | e <;> rw [e] at hr hi <;> simp only at hr hi <;> omega
 rcases key _ _ _ _ hr hi with ⟨rfl, h1⟩ | ⟨rfl, h1⟩ | ⟨rfl, h1⟩ | ⟨rfl, h1⟩ <;> exact h1
/-- the bytes of a place up to another one -/
def cut (s : ByteArray) (a b : Nat) : List UInt8 := (s.data.toList.drop a).take (b - a)
theorem cut_self (s : ByteArray) (a : Nat) : cut s a a = [] := by simp [cut]
theorem cut_ne (s : ByteArray) (a b : Nat) (h : a < b) (hb : b <= s.size) : cut s a b ≠ [] := by
 have hl : s.data.toList.length = s.size := by rw [Array.length_toList]; rfl
 intro h0
 have := congrArg List.length h0
 simp only [cut, List.length_take, List.length_drop, List.length_nil] at this
 omega
theorem cut_snoc (s : ByteArray) (a b : Nat) (h : a <= b) (hb : b < s.size) : cut s a (b + 1) = cut s a b ++ [s.data.toList.getD b 0] := by
 have hl : s.data.toList.length = s.size := by rw [Array.length_toList]; rfl
 unfold cut
 rw [show b + 1 - a = (b - a) + 1 by omega, List.take_add_one, List.getElem?_drop, show a + (b - a) = b by omega, List.getD_eq_getElem?_getD, List.getElem?_eq_getElem (by omega)]
 rfl
theorem cut_data (s : ByteArray) (a b : Nat) : (s.extract a b).data.toList = cut s a b := by
 simp [cut, ByteArray.data_extract, Array.toList_extract, List.extract_eq_take_drop]
/-- bytes that are neither a blank, nor a quote, nor a backslash -/
theorem wl_other (s : ByteArray) (fr : Nat) (q sh : Bool) (hsh : sh = true -> q = true) : ∀ (k pos : Nat), fr <= pos -> pos + k <= s.size -> (∀ i, i < k -> 128 <= (s.data.toList.getD (pos + i) 0).toNat) ->
 wl (s.data.toList.drop pos) (cut s fr pos) q false sh = wl (s.data.toList.drop (pos + k)) (cut s fr (pos + k)) q false sh
 | 0, pos, _, _, _ => rfl
 | k + 1, pos, hf, hp, hh => by
   have h0 := hh 0 (by omega)
   rw [Nat.add_zero] at h0
   have n92 : s.data.toList.getD pos 0 ≠ 92 := fun h => by rw [h] at h0; revert h0; decide
   have n34 : s.data.toList.getD pos 0 ≠ 34 := fun h => by rw [h] at h0; revert h0; decide
   have n32 : s.data.toList.getD pos 0 ≠ 32 := fun h => by rw [h] at h0; revert h0; decide
   rw [drop_consB s pos (by omega), wl_cons, if_neg (by simp), if_neg (fun x => n92 x.2), if_neg (fun x => n34 x.1), if_neg (fun x => n34 x.1), <- cut_snoc s fr pos hf (by omega)]
   have ih := wl_other s fr q sh hsh k (pos + 1) (by omega) (by omega) (fun i hi => by have := hh (i + 1) (by omega); rwa [show pos + (i + 1) = pos + 1 + i by omega] at this)
   rw [show pos + 1 + k = pos + (k + 1) by omega] at ih
   by_cases hq : q = true
   · rw [if_pos hq]; exact ih
   · rw [if_neg hq, if_neg (fun x => n32 x.1), if_neg (fun x => x.elim n32 (fun y => y.elim n34 (fun z => hq (hsh z))))]
     exact ih
/-- what a rune does -/
theorem wl_esc (s : ByteArray) (fr pos : Nat) (sh : Bool) (hf : fr <= pos) (h : pos < s.size) (hw : pos + (Utf8.decode s pos).2 <= s.size) (hw1 : 1 <= (Utf8.decode s pos).2) :
 wl (s.data.toList.drop pos) (cut s fr pos) true true sh = wl (s.data.toList.drop (pos + (Utf8.decode s pos).2)) (cut s fr (pos + (Utf8.decode s pos).2)) true false sh := by
 rw [drop_consB s pos h, wl_cons, if_pos rfl, <- cut_snoc s fr pos hf h]
 rcases Nat.lt_or_ge (Utf8.decode s pos).1 128 with hr | hr
 · rw [(rune_low s pos h hr).1]
 · have hh := rune_high s pos h hr
   generalize (Utf8.decode s pos).2 = k at *
   rw [wl_other s fr true sh (fun _ => rfl) (k - 1) (pos + 1) (by omega) (by omega) (fun i hi => by have := hh (i + 1) (by omega); rwa [show pos + (i + 1) = pos + 1 + i by omega] at this)]
   rw [show pos + 1 + (k - 1) = pos + k by omega]
theorem wl_rune (s : ByteArray) (fr pos : Nat) (q sh : Bool) (hsh : sh = true -> q = true) (hf : fr <= pos) (h : pos < s.size) (hw : pos + (Utf8.decode s pos).2 <= s.size) (hr : (Utf8.decode s pos).1 ≠ 34) (hr2 : (Utf8.decode s pos).1 ≠ 32 \/ q = true) (hr3 : (Utf8.decode s pos).1 ≠ 92 \/ q = false) :
 wl (s.data.toList.drop pos) (cut s fr pos) q false sh = wl (s.data.toList.drop (pos + (Utf8.decode s pos).2)) (cut s fr (pos + (Utf8.decode s pos).2)) q false sh := by
 rcases Nat.lt_or_ge (Utf8.decode s pos).1 128 with hl | hl
 · obtain ⟨e1, e2⟩ := rune_low s pos h hl
   rw [e1]
   rw [<- e2] at hr hr2 hr3
   have n34 : s.data.toList.getD pos 0 ≠ 34 := fun h => hr (by rw [h]; rfl)
   have n32 : s.data.toList.getD pos 0 ≠ 32 \/ q = true := hr2.imp (fun x h => x (by rw [h]; rfl)) id
   have n92 : s.data.toList.getD pos 0 ≠ 92 \/ q = false := hr3.imp (fun x h => x (by rw [h]; rfl)) id
   rw [drop_consB s pos h, wl_cons, if_neg (by simp), if_neg (fun x => n92.elim (fun y => y x.2) (fun y => by rw [y] at x; exact absurd x.1 (by simp))), if_neg (fun x => n34 x.1), if_neg (fun x => n34 x.1), <- cut_snoc s fr pos hf h]
   by_cases hq : q = true
   · rw [if_pos hq]
   · have n32' : s.data.toList.getD pos 0 ≠ 32 := n32.resolve_right hq
     rw [if_neg hq, if_neg (fun x => n32' x.1), if_neg (fun x => x.elim n32' (fun y => y.elim n34 (fun z => hq (hsh z))))]
 · exact wl_other s fr q sh hsh _ pos hf hw (rune_high s pos h hl)
theorem wl_bs (s : ByteArray) (fr pos : Nat) (sh : Bool) (hf : fr <= pos) (h : pos < s.size) (hr : (Utf8.decode s pos).1 = 92) :
 wl (s.data.toList.drop pos) (cut s fr pos) true false sh = wl (s.data.toList.drop (pos + 1)) (cut s fr (pos + 1)) true true sh /\ (Utf8.decode s pos).2 = 1 := by
 obtain ⟨e1, e2⟩ := rune_low s pos h (by omega)
 rw [hr] at e2
 have e3 : s.data.toList.getD pos 0 = 92 := UInt8.toNat_inj.1 (by rw [e2]; rfl)
 exact ⟨by rw [drop_consB s pos h, wl_cons, if_neg (by simp), if_pos (by simp only [e3, and_self]), <- cut_snoc s fr pos hf h], e1⟩
/-- a quote -/
theorem wl_q (s : ByteArray) (fr pos : Nat) (q sh : Bool) (hf : fr <= pos) (h : pos < s.size) (hr : (Utf8.decode s pos).1 = 34) :
 wl (s.data.toList.drop pos) (cut s fr pos) q false sh = (if fr = pos then wl (s.data.toList.drop (pos + 1)) (cut s fr (pos + 1)) true false sh else if q = true then wl (s.data.toList.drop (pos + 1)) (cut s fr (pos + 1)) false false true else none) /\ (Utf8.decode s pos).2 = 1 := by
 obtain ⟨e1, e2⟩ := rune_low s pos h (by omega)
 rw [hr] at e2
 have e3 : s.data.toList.getD pos 0 = 34 := UInt8.toNat_inj.1 (by rw [e2]; rfl)
 refine ⟨?_, e1⟩
 rw [drop_consB s pos h, wl_cons, if_neg (by simp), if_neg (by rw [e3]; simp), <- cut_snoc s fr pos hf h, e3]
 by_cases hp : fr = pos
 · rw [if_pos hp, if_pos ⟨rfl, by rw [hp]; exact cut_self s pos⟩]
 · have := cut_ne s fr pos (by omega) (by omega)
   rw [if_neg hp, if_neg (fun x => this x.2)]
   by_cases hq : q = true
   · rw [if_pos ⟨rfl, hq⟩, if_pos hq]
   · rw [if_neg (fun x => hq x.2), if_neg hq, if_neg hq, if_neg (by simp), if_pos (by simp)]
/-- a blank outside of quotes -/
theorem wl_b (s : ByteArray) (fr pos : Nat) (sh : Bool) (hf : fr <= pos) (h : pos < s.size) (hr : (Utf8.decode s pos).1 = 32) :
 wl (s.data.toList.drop pos) (cut s fr pos) false false sh = (if fr = pos then none else (wl (s.data.toList.drop (pos + 1)) (cut s (pos + 1) (pos + 1)) false false false).map (cut s fr pos :: ·)) /\ (Utf8.decode s pos).2 = 1 := by
 obtain ⟨e1, e2⟩ := rune_low s pos h (by omega)
 rw [hr] at e2
 have e3 : s.data.toList.getD pos 0 = 32 := UInt8.toNat_inj.1 (by rw [e2]; rfl)
 refine ⟨?_, e1⟩
 rw [drop_consB s pos h, wl_cons, if_neg (by simp), if_neg (by simp), if_neg (by rw [e3]; simp), if_neg (by simp), if_neg (by simp), e3]
 by_cases hp : fr = pos
 · rw [if_pos hp, if_neg (fun x => x.2 (by rw [hp]; exact cut_self s pos)), if_pos (by simp)]
 · have := cut_ne s fr pos (by omega) (by omega)
   rw [if_neg hp, if_pos ⟨rfl, this⟩, cut_self]
/-- any rune but a blank behind a closing quote -/
theorem wl_sh (s : ByteArray) (fr pos : Nat) (hf : fr < pos) (h : pos < s.size) (hr : (Utf8.decode s pos).1 ≠ 32) :
 wl (s.data.toList.drop pos) (cut s fr pos) false false true = none := by
 have n32 : s.data.toList.getD pos 0 ≠ 32 := by
  intro e
  rcases Nat.lt_or_ge (Utf8.decode s pos).1 128 with hl | hl
  · have := (rune_low s pos h hl).2
    rw [e] at this
    exact hr this.symm
  · have hw := Lib.decode_width_pos s pos h
    have := rune_high s pos h hl 0 hw
    rw [Nat.add_zero, e] at this
    revert this
    decide
 have := cut_ne s fr pos hf (by omega)
 rw [drop_consB s pos h, wl_cons, if_neg (by simp), if_neg (by simp), if_neg (fun x => this x.2), if_neg (by simp), if_neg (by simp), if_neg (fun x => n32 x.1), if_pos (.inr (.inr rfl))]
theorem wl_end (s : ByteArray) (fr pos : Nat) (q e sh : Bool) (hf : fr <= pos) (h : pos = s.size) : wl (s.data.toList.drop pos) (cut s fr pos) q e sh = if q = true \/ fr = pos then none else some [cut s fr s.size] := by
 subst h
 rw [List.drop_of_length_le (by rw [Array.length_toList]; exact Nat.le_refl _), wl_nil]
 by_cases hp : fr = s.size
 · subst hp; simp [cut_self]
 · have := cut_ne s fr s.size (by omega) (by omega)
   simp [this, hp]
end Go.Proofs.YtpdinahdcedmkaaGreatDoor.Ext
namespace Go.Proofs.YtpdinahdcedmkaaGreatDoor.ExtQ
open Go.Proofs.YtpdinahdcedmkaaGreatDoor.Ext
set_option linter.unusedVariables false
set_option linter.unusedSimpArgs false
open Go.RowKit Go.Proofs.YtpdinahdcedmkaaGreatDoorW.PrintLast Go.Proofs.YtpdinahdcedmkaaGreatDoorW.PrintMore
open Go.Proofs.YtpdinahdcedmkaaGreatDoorW.PrintWords hiding blk_cell blk_set nums_append
theorem info_string : (Tryz.prog.info? 9).map (fun i => (i.zero, i.size, i.bytes)) = some (some (.string ⟨#[]⟩), 1, 16) := by kernel_rfl
def strB (l : List UInt8) : ByteArray := ⟨l.toArray⟩
def wordsS (s : ByteArray) : Option (List ByteArray) := (wl s.data.toList [] false false false).map (·.map strB)
/-- what is known at a round's head -/
def WState (s : ByteArray) (U : Option (List ByteArray)) (L : List ByteArray) (fr pos : Nat) (q e sh : Bool) : Prop :=
 U = (wl (s.data.toList.drop pos) (cut s fr pos) q e sh).map (fun ws => L ++ ws.map strB) /\ fr <= pos /\ (e = true -> q = true) /\ (sh = true -> q = false) /\ ((q = true \/ sh = true) -> fr < pos)
theorem strB_cut (s : ByteArray) (a b : Nat) : strB (cut s a b) = s.extract a b := by
 apply ByteArray.ext
 rw [<- Array.toList_inj, cut_data]
 rfl
theorem ws_start (s : ByteArray) : WState s (wordsS s) [] 0 0 false false false := ⟨by unfold wordsS; rw [cut_self]; simp, by omega, by simp, by simp, by simp⟩
section
variable {s : ByteArray} {U : Option (List ByteArray)} {L : List ByteArray} {fr pos : Nat} {q e sh : Bool}
theorem ws_esc (h : WState s U L fr pos true true sh) (hp : pos < s.size) (hw : pos + (Utf8.decode s pos).2 <= s.size) (hw1 : 1 <= (Utf8.decode s pos).2) : WState s U L fr (pos + (Utf8.decode s pos).2) true false sh :=
 ⟨by rw [h.1, wl_esc s fr pos sh h.2.1 hp hw hw1], by have := h.2.1; omega, by simp, h.2.2.2.1, fun x => by have := h.2.2.2.2 (.inl rfl); omega⟩
theorem ws_bs (h : WState s U L fr pos true false sh) (hp : pos < s.size) (hr : (Utf8.decode s pos).1 = 92) : WState s U L fr (pos + (Utf8.decode s pos).2) true true sh := by
 obtain ⟨h1, h2⟩ := wl_bs s fr pos sh h.2.1 hp hr
 rw [h2]
 exact ⟨by rw [h.1, h1], by have := h.2.1; omega, by simp, h.2.2.2.1, fun x => by have := h.2.2.2.2 (.inl rfl); omega⟩
theorem ws_open (h : WState s U L fr fr false false sh) (hp : fr < s.size) (hr : (Utf8.decode s fr).1 = 34) : WState s U L fr (fr + (Utf8.decode s fr).2) true false false := by
 obtain ⟨h1, h2⟩ := wl_q s fr fr false sh (Nat.le_refl _) hp hr
 rw [h2]
 rw [if_pos rfl] at h1
 have hs : sh = false := by
  cases sh with
  | false => rfl
  | true => have := h.2.2.2.2 (.inr rfl); omega
 subst hs
 exact ⟨by rw [h.1, h1], by omega, by simp, by simp, fun _ => by omega⟩
theorem ws_close (h : WState s U L fr pos true false sh) (hp : pos < s.size) (hr : (Utf8.decode s pos).1 = 34) : WState s U L fr (pos + (Utf8.decode s pos).2) false false true := by
 obtain ⟨h1, h2⟩ := wl_q s fr pos true sh h.2.1 hp hr
 rw [h2]
 have hlt := h.2.2.2.2 (.inl rfl)
 rw [if_neg (by omega), if_pos rfl] at h1
 exact ⟨by rw [h.1, h1], by omega, by simp, by simp, fun _ => by omega⟩
theorem ws_in (h : WState s U L fr pos true false sh) (hp : pos < s.size) (hw : pos + (Utf8.decode s pos).2 <= s.size) (hr : (Utf8.decode s pos).1 ≠ 34) (hr2 : (Utf8.decode s pos).1 ≠ 92) : WState s U L fr (pos + (Utf8.decode s pos).2) true false sh :=
 ⟨by rw [h.1, wl_rune s fr pos true sh (fun _ => rfl) h.2.1 hp hw hr (.inr rfl) (.inl hr2)], by have := h.2.1; omega, by simp, h.2.2.2.1, fun x => by have := h.2.2.2.2 (.inl rfl); omega⟩
theorem ws_out (h : WState s U L fr pos false false false) (hp : pos < s.size) (hw : pos + (Utf8.decode s pos).2 <= s.size) (hr : (Utf8.decode s pos).1 ≠ 34) (hr2 : (Utf8.decode s pos).1 ≠ 32) : WState s U L fr (pos + (Utf8.decode s pos).2) false false false :=
 ⟨by rw [h.1, wl_rune s fr pos false false (by simp) h.2.1 hp hw hr (.inl hr2) (.inr rfl)], by have := h.2.1; omega, by simp, by simp, by simp⟩
theorem ws_blank (h : WState s U L fr pos false false sh) (hp : pos < s.size) (hlt : fr < pos) (hr : (Utf8.decode s pos).1 = 32) : WState s U (L ++ [s.extract fr pos]) (pos + 1) (pos + (Utf8.decode s pos).2) false false false := by
 obtain ⟨h1, h2⟩ := wl_b s fr pos sh h.2.1 hp hr
 rw [h2]
 rw [if_neg (by omega)] at h1
 refine ⟨?_, Nat.le_refl _, by simp, by simp, by simp⟩
 rw [h.1, h1, Option.map_map]
 congr 1
 funext ws
 simp [strB_cut]
theorem ws_bad_b (h : WState s U L fr fr false false sh) (hp : fr < s.size) (hr : (Utf8.decode s fr).1 = 32) : U = none := by
 obtain ⟨h1, h2⟩ := wl_b s fr fr sh (Nat.le_refl _) hp hr
 rw [h.1, h1, if_pos rfl]; rfl
theorem ws_bad_q (h : WState s U L fr pos false false sh) (hp : pos < s.size) (hlt : fr < pos) (hr : (Utf8.decode s pos).1 = 34) : U = none := by
 obtain ⟨h1, h2⟩ := wl_q s fr pos false sh h.2.1 hp hr
 rw [h.1, h1, if_neg (by omega), if_neg (by simp)]; rfl
theorem ws_bad_s (h : WState s U L fr pos false false true) (hp : pos < s.size) (hr : (Utf8.decode s pos).1 ≠ 32) : U = none := by
 rw [h.1, wl_sh s fr pos (h.2.2.2.2 (.inr rfl)) hp hr]; rfl
theorem ws_end (h : WState s U L fr pos q e sh) (hp : pos = s.size) : U = if q = true \/ fr = s.size then none else some (L ++ [s.extract fr s.size]) := by
 rw [h.1, wl_end s fr pos q e sh h.2.1 hp, hp]
 by_cases hc : q = true \/ fr = s.size
 · rw [if_pos hc, if_pos hc]; rfl
 · rw [if_neg hc, if_neg hc]; simp [strB_cut]
end
def WordsPost (w : World) (U : Option (List ByteArray)) (e : Ending) (w' : World) : Prop := (∃ v, e = .returned (.tuple #[v, .int .i64 (if U.isSome = true then 0 else 270)]) /\ Kd.R Kd.string 9 w' w.heap.size (fun _ => True) v (U.getD [])) /\ Below w.heap.size w w'
theorem own_str {w : World} {base : Nat} {v : Value} {l : List ByteArray} (h : w.ownsRow base 9 1 v l.length (l.map .string)) : Kd.R Kd.string 9 w base (fun _ => True) v l := by
 refine ⟨fun _ _ => trivial, l.map .string, h, ?_, fun j p hj => ?_⟩
 · show _ = _ * 1
   simp
 · show ((l.map Value.string).drop (j * 1)).take 1 = [Value.string p]
   rw [Nat.mul_one]
   have hlt : j < l.length := by
    rcases Nat.lt_or_ge j l.length with h | h
    · exact h
    · rw [List.getElem?_eq_none h] at hj; cases hj
   rw [List.getElem?_eq_getElem hlt] at hj
   obtain rfl := Option.some.inj hj
   rw [List.drop_eq_getElem_cons (by simpa using hlt)]
   simp
theorem words_walk (s : ByteArray) (w : World) (hs : s.size <= 1073741824) :
 Calls Tryz.prog 32 #[.string s] w (WordsPost w (wordsS s)) := by
 obtain ⟨i0, hi, hz0, hz1, hz2⟩ := info_parts info_string
 have HW := Zz.mk (ws_start s)
 generalize wordsS s = U at *
 go_enter Tryz.func32, Tryz.ntmps32
 go_wp2
 go_step3
 go_wp2
 go_step3
 go_wp2
 go_loopw [4, 5, 6, 7, 8, 9] (fun v4 v5 v6 v7 v8 v9 wr => ∃ (pos fr : Nat) (q e sh : Bool) (L : List ByteArray), v5 = .int .i64 (fr : Int) /\ v6 = .bool q /\ v7 = .bool e /\ v8 = .bool sh /\ v9 = .bool true /\ wr.heap[w.heap.size]? = some (.stringIter s pos) /\ pos <= s.size /\ Zz (WState s U L fr pos q e sh) /\ Zz (wr.ownsRow w.heap.size 9 1 v4 L.length (L.map .string)) /\ L.length <= fr /\ Zz (Below w.heap.size w wr)) (fun _ _ _ _ _ _ wr => s.size - wr.iterPos w.heap.size)
 case atStart => exact ⟨0, 0, false, false, false, [], rfl, rfl, rfl, rfl, rfl, iter_new w s, by omega, HW, ⟨World.ownsRow_nil _ _ _ _⟩, by simp, ⟨below_iter w s⟩⟩
 case round =>
  clear HW
  obtain ⟨pos, fr, q, e, sh, L, rfl, rfl, rfl, rfl, rfl, hit, hpl, HS, HO, hL, HB⟩ := hrel
  by_cases hp : pos < s.size
  · have hw1 := Lib.decode_width_pos s pos hp
    have hwl := width_le s pos hp
    have hnx := fun ty => Lib.run_next_any_at (P := Tryz.prog) wr w.heap.size s pos ty hit hp
    have HI := Zz.mk (Lib.iterAt_heap wr w.heap.size s pos (pos + (Utf8.decode s pos).2) hit)
    have HBI := Zz.mk (Lib.below_iterAt HB.out (Nat.le_refl _) s (pos + (Utf8.decode s pos).2))
    have HM0 := iter_less hw1 hit hp
    have HOI := Zz.mk (row_iterAt HO.out hit (pos + (Utf8.decode s pos).2))
    have HMM : Zz (s.size - (pos + (Utf8.decode s pos).2) < s.size - wr.iterPos w.heap.size) := ⟨by rwa [iterPos_of HI.out] at HM0⟩
    have hfr := HS.out.2.1
    clear HM0 HO HB
    cases e with
    | true =>
      obtain rfl : q = true := HS.out.2.2.1 rfl
      have HN := Zz.mk (ws_esc HS.out hp hwl.1 hw1)
      generalize hd : Utf8.decode s pos = d at *
      obtain ⟨r, wd⟩ := d
      simp only at *
      have hwl1 := hwl.1
      clear hd hwl HS hw1
      go_wp2
      go_roundw
      case rel => exact ⟨pos + wd, fr, true, false, sh, L, rfl, rfl, rfl, rfl, rfl, HI.out, hwl1, HN, HOI, hL, HBI⟩
      case measure => rw [iterPos_of HI.out]; exact HMM.out
    | false =>
    cases q with
    | true =>
      have hlt := HS.out.2.2.2.2 (.inl rfl)
      have N1 := Zz.mk (fun h => ws_bs HS.out hp h)
      have N2 := Zz.mk (fun h => ws_close HS.out hp h)
      have N3 := Zz.mk (fun h h2 => ws_in HS.out hp hwl.1 h h2)
      generalize hd : Utf8.decode s pos = d at *
      obtain ⟨r, wd⟩ := d
      simp only at *
      have hwl1 := hwl.1
      clear hd hwl HS hw1
      by_cases h92 : r = 92
      · have HN := Zz.mk (N1.out h92)
        have t1 : ((r : Int) == 92) = true := beq_iff_eq.2 (by omega)
        clear N1 N2 N3 h92
        go_wp2
        go_roundw
        case rel => exact ⟨pos + wd, fr, true, true, sh, L, rfl, rfl, rfl, rfl, rfl, HI.out, hwl1, HN, HOI, hL, HBI⟩
        case measure => rw [iterPos_of HI.out]; exact HMM.out
      · have t1 : ((r : Int) == 92) = false := beq_eq_false_iff_ne.2 (by omega)
        by_cases h34 : r = 34
        · have HN := Zz.mk (N2.out h34)
          have t2 : ((r : Int) == 34) = true := beq_iff_eq.2 (by omega)
          have t3 : ((pos : Int) == (fr : Int)) = false := beq_eq_false_iff_ne.2 (by omega)
          clear N1 N2 N3 h92 h34
          go_wp2
          go_roundw
          case rel => exact ⟨pos + wd, fr, false, false, true, L, rfl, rfl, rfl, rfl, rfl, HI.out, hwl1, HN, HOI, hL, HBI⟩
          case measure => rw [iterPos_of HI.out]; exact HMM.out
        · have HN := Zz.mk (N3.out h34 h92)
          have t2 : ((r : Int) == 34) = false := beq_eq_false_iff_ne.2 (by omega)
          clear N1 N2 N3 h92 h34
          go_wp2
          go_roundw
          case rel => exact ⟨pos + wd, fr, true, false, sh, L, rfl, rfl, rfl, rfl, rfl, HI.out, hwl1, HN, HOI, hL, HBI⟩
          case measure => rw [iterPos_of HI.out]; exact HMM.out
    | false =>
    by_cases hlt : fr < pos
    · have t3 : ((pos : Int) == (fr : Int)) = false := beq_eq_false_iff_ne.2 (by omega)
      have t4 : decide ((fr : Int) < (pos : Int)) = true := decide_eq_true (by omega)
      have N1 := Zz.mk (fun h => ws_bad_q HS.out hp hlt h)
      have N2 := Zz.mk (fun h => ws_blank HS.out hp hlt h)
      cases sh with
      | true =>
        have N3 := Zz.mk (fun h => ws_bad_s HS.out hp h)
        generalize hd : Utf8.decode s pos = d at *
        obtain ⟨r, wd⟩ := d
        simp only at *
        have hwl1 := hwl.1
        clear hd hwl HS hw1
        by_cases h34 : r = 34
        · have t2 : ((r : Int) == 34) = true := beq_iff_eq.2 (by omega)
          have t5 : ((r : Int) == 32) = false := beq_eq_false_iff_ne.2 (by omega)
          obtain rfl := N1.out h34
          go_wp2
          try rw [Exit.noGoto_ret]
          go_ret2
          exact ⟨⟨_, rfl, Kd.R_nil _ _ _ _ _⟩, HBI.out⟩
        · have t2 : ((r : Int) == 34) = false := beq_eq_false_iff_ne.2 (by omega)
          by_cases h32 : r = 32
          · have t5 : ((r : Int) == 32) = true := beq_iff_eq.2 (by omega)
            have HN := Zz.mk (N2.out h32)
            clear N1 N2 N3 h32 h34
            go_wp2_with (first
             | (at_builtin
                refine wpList_append_own _ rfl _ _ 22 rfl w.heap.size 9 i0 _ 1 16 Tryz.underlying22 hi hz0 hz1 hz2 rfl (by decide) _ _ _ rfl (HOI.out.alloc _) ⟨(wr.iterAt w.heap.size s (pos + wd)).heap.size, 0, none⟩ 1 1 [.string (s.extract fr pos)] rfl rfl (World.news_of_block (cs := #[.string (s.extract fr pos)]) (t := 9) (fr := (0, 0)) (heap_alloc_new _ _)) (by simp [Value.oneCell']) (by simp only [maxLen]; omega) (by omega) (by have hz9 := HBI.out.size; simp; omega) ?_
                intro v3 w3 hown3 hg3 hx3
                clear hx3
                have HI3 := Zz.mk (iter_grown (HOI.out.alloc _) hg3 (iter_alloc HI.out _))
                have HB3 := Zz.mk ((HBI.out.alloc HBI.out.size _).grown hg3 (by have hz9 := HBI.out.size; simp; omega) (fun k hk => own_base HOI.out k hk))
                have HO3 := Zz.mk hown3
                clear hown3 hg3))
            go_roundw
            case rel => exact ⟨pos + wd, pos + 1, false, false, false, L ++ [s.extract fr pos], by go_num, rfl, rfl, rfl, rfl, HI3.out, hwl1, ⟨HN.out⟩, ⟨by simpa using HO3.out⟩, by simp; omega, HB3⟩
            case measure => rw [iterPos_of HI3.out]; exact HMM.out
          · have t5 : ((r : Int) == 32) = false := beq_eq_false_iff_ne.2 (by omega)
            obtain rfl := N3.out h32
            go_wp2
            try rw [Exit.noGoto_ret]
            go_ret2
            exact ⟨⟨_, rfl, Kd.R_nil _ _ _ _ _⟩, HBI.out⟩
      | false =>
        have N3 := Zz.mk (fun h h2 => ws_out HS.out hp hwl.1 h h2)
        generalize hd : Utf8.decode s pos = d at *
        obtain ⟨r, wd⟩ := d
        simp only at *
        have hwl1 := hwl.1
        clear hd hwl HS hw1
        by_cases h34 : r = 34
        · have t2 : ((r : Int) == 34) = true := beq_iff_eq.2 (by omega)
          have t5 : ((r : Int) == 32) = false := beq_eq_false_iff_ne.2 (by omega)
          obtain rfl := N1.out h34
          go_wp2
          try rw [Exit.noGoto_ret]
          go_ret2
          exact ⟨⟨_, rfl, Kd.R_nil _ _ _ _ _⟩, HBI.out⟩
        · have t2 : ((r : Int) == 34) = false := beq_eq_false_iff_ne.2 (by omega)
          by_cases h32 : r = 32
          · have t5 : ((r : Int) == 32) = true := beq_iff_eq.2 (by omega)
            have HN := Zz.mk (N2.out h32)
            clear N1 N2 N3 h32 h34
            go_wp2_with (first
             | (at_builtin
                refine wpList_append_own _ rfl _ _ 22 rfl w.heap.size 9 i0 _ 1 16 Tryz.underlying22 hi hz0 hz1 hz2 rfl (by decide) _ _ _ rfl (HOI.out.alloc _) ⟨(wr.iterAt w.heap.size s (pos + wd)).heap.size, 0, none⟩ 1 1 [.string (s.extract fr pos)] rfl rfl (World.news_of_block (cs := #[.string (s.extract fr pos)]) (t := 9) (fr := (0, 0)) (heap_alloc_new _ _)) (by simp [Value.oneCell']) (by simp only [maxLen]; omega) (by omega) (by have hz9 := HBI.out.size; simp; omega) ?_
                intro v3 w3 hown3 hg3 hx3
                clear hx3
                have HI3 := Zz.mk (iter_grown (HOI.out.alloc _) hg3 (iter_alloc HI.out _))
                have HB3 := Zz.mk ((HBI.out.alloc HBI.out.size _).grown hg3 (by have hz9 := HBI.out.size; simp; omega) (fun k hk => own_base HOI.out k hk))
                have HO3 := Zz.mk hown3
                clear hown3 hg3))
            go_roundw
            case rel => exact ⟨pos + wd, pos + 1, false, false, false, L ++ [s.extract fr pos], by go_num, rfl, rfl, rfl, rfl, HI3.out, hwl1, ⟨HN.out⟩, ⟨by simpa using HO3.out⟩, by simp; omega, HB3⟩
            case measure => rw [iterPos_of HI3.out]; exact HMM.out
          · have t5 : ((r : Int) == 32) = false := beq_eq_false_iff_ne.2 (by omega)
            have HN := Zz.mk (N3.out h34 h32)
            clear N1 N2 N3 h32 h34
            go_wp2
            go_roundw
            case rel => exact ⟨pos + wd, fr, false, false, false, L, rfl, rfl, rfl, rfl, rfl, HI.out, hwl1, HN, HOI, hL, HBI⟩
            case measure => rw [iterPos_of HI.out]; exact HMM.out
    · obtain rfl : fr = pos := by omega
      have t3 : ((fr : Int) == (fr : Int)) = true := beq_iff_eq.2 rfl
      have t4 : decide ((fr : Int) < (fr : Int)) = false := decide_eq_false (by omega)
      obtain rfl : sh = false := by
       cases sh with
       | false => rfl
       | true => exact absurd (HS.out.2.2.2.2 (.inr rfl)) hlt
      have N1 := Zz.mk (fun h => ws_open HS.out hp h)
      have N2 := Zz.mk (fun h => ws_bad_b HS.out hp h)
      have N3 := Zz.mk (fun h h2 => ws_out HS.out hp hwl.1 h h2)
      generalize hd : Utf8.decode s fr = d at *
      obtain ⟨r, wd⟩ := d
      simp only at *
      have hwl1 := hwl.1
      clear hd hwl HS hw1
      by_cases h34 : r = 34
      · have t2 : ((r : Int) == 34) = true := beq_iff_eq.2 (by omega)
        have HN := Zz.mk (N1.out h34)
        clear N1 N2 N3 h34 hlt hfr
        go_wp2
        go_roundw
        case rel => exact ⟨fr + wd, fr, true, false, false, L, rfl, rfl, rfl, rfl, rfl, HI.out, hwl1, HN, HOI, hL, HBI⟩
        case measure => rw [iterPos_of HI.out]; exact HMM.out
      · have t2 : ((r : Int) == 34) = false := beq_eq_false_iff_ne.2 (by omega)
        by_cases h32 : r = 32
        · have t5 : ((r : Int) == 32) = true := beq_iff_eq.2 (by omega)
          obtain rfl := N2.out h32
          go_wp2
          try rw [Exit.noGoto_ret]
          go_ret2
          exact ⟨⟨_, rfl, Kd.R_nil _ _ _ _ _⟩, HBI.out⟩
        · have t5 : ((r : Int) == 32) = false := beq_eq_false_iff_ne.2 (by omega)
          have HN := Zz.mk (N3.out h34 h32)
          clear N1 N2 N3 h32 h34 hlt hfr
          go_wp2
          go_roundw
          case rel => exact ⟨fr + wd, fr, false, false, false, L, rfl, rfl, rfl, rfl, rfl, HI.out, hwl1, HN, HOI, hL, HBI⟩
          case measure => rw [iterPos_of HI.out]; exact HMM.out
  · have hnx := fun ty => Lib.run_next_end_at (P := Tryz.prog) wr w.heap.size s pos ty hit hp
    have hU := ws_end HS.out (by omega)
    have hfr := HS.out.2.1
    have HBI := HB
    clear HS HB
    cases q with
    | true =>
      rw [if_pos (.inl rfl)] at hU
      obtain rfl := hU
      go_wp2
      try rw [Exit.noGoto_ret]
      go_ret2
      exact ⟨⟨_, rfl, Kd.R_nil _ _ _ _ _⟩, HBI.out⟩
    | false =>
      by_cases hf : fr = s.size
      · rw [if_pos (.inr hf)] at hU
        obtain rfl := hU
        have t3 : ((fr : Int) == (s.size : Int)) = true := beq_iff_eq.2 (by omega)
        clear hf
        go_wp2
        try rw [Exit.noGoto_ret]
        go_ret2
        exact ⟨⟨_, rfl, Kd.R_nil _ _ _ _ _⟩, HBI.out⟩
      · rw [if_neg (by simp [hf])] at hU
        obtain rfl := hU
        have t3 : ((fr : Int) == (s.size : Int)) = false := beq_eq_false_iff_ne.2 (by omega)
        clear hf
        go_wp2_with (first
         | (at_builtin
            refine wpList_append_own _ rfl _ _ 22 rfl w.heap.size 9 i0 _ 1 16 Tryz.underlying22 hi hz0 hz1 hz2 rfl (by decide) _ _ _ rfl (HO.out.alloc _) ⟨wr.heap.size, 0, none⟩ 1 1 [.string (s.extract fr s.size)] rfl rfl (World.news_of_block (cs := #[.string (s.extract fr s.size)]) (t := 9) (fr := (0, 0)) (heap_alloc_new _ _)) (by simp [Value.oneCell']) (by simp only [maxLen]; omega) (by omega) (by have hz9 := HBI.out.size; simp; omega) ?_
            intro v3 w3 hown3 hg3 hx3
            clear hx3
            have HB3 := Zz.mk ((HBI.out.alloc HBI.out.size _).grown hg3 (by have hz9 := HBI.out.size; simp; omega) (fun k hk => own_base HO.out k hk))
            have HO3 := Zz.mk hown3
            clear hown3 hg3))
        try rw [Exit.noGoto_ret]
        go_ret2
        exact ⟨⟨_, rfl, own_str (by simpa using HO3.out)⟩, HB3.out⟩
/-- strings that lie in a block of strings -/
structure StrAt (w : World) (A : Option Addr) (l : List ByteArray) : Prop where mk ::
 (out : 0 < l.length -> ∃ b i cells fr, A = some ⟨b, i, none⟩ /\ w.heap[b]? = some (.cells cells 9 fr) /\ ∀ j s, l[j]? = some s -> w.cell? ⟨b, i + j, none⟩ = some (.string s))
theorem StrAt.move {w w' : World} {A : Option Addr} {l : List ByteArray} {g : Nat} {o : Obj} (h : StrAt w A l) (hg : w.grownBy w' (some g)) (ho : w.heap[g]? = some o) (hne : ∀ cells fr, o ≠ .cells cells 9 fr) : StrAt w' A l := by
 refine ⟨fun hl => ?_⟩
 obtain ⟨b, i, cells, fr, h1, h2, h3⟩ := h.out hl
 have hb : b ≠ g := by
  rintro rfl
  rw [ho] at h2
  exact hne _ _ (Option.some.inj h2)
 have hk := hg.block b (Array.getElem?_eq_some_iff.1 h2).1 (by simpa using hb)
 exact ⟨b, i, cells, fr, h1, hk.trans h2, fun j s hj => hg.cell (h3 j s hj) (by simpa using hb)⟩
theorem StrAt.below {w w' : World} {A : Option Addr} {l : List ByteArray} (h : StrAt w A l) (hb : Below w.heap.size w w') : StrAt w' A l := by
 refine ⟨fun hl => ?_⟩
 obtain ⟨b, i, cells, fr, h1, h2, h3⟩ := h.out hl
 exact ⟨b, i, cells, fr, h1, krow h2 hb, fun j s hj => (hb.cell (p := ⟨b, i + j, none⟩) (Array.getElem?_eq_some_iff.1 h2).1).trans (h3 j s hj)⟩
theorem StrAt.tail {w : World} {b i : Nat} {s : ByteArray} {t : List ByteArray} (h : StrAt w (some ⟨b, i, none⟩) (s :: t)) : StrAt w (some ⟨b, i + 1, none⟩) t := by
 refine ⟨fun hl => ?_⟩
 obtain ⟨b', i', cells, fr, h1, h2, h3⟩ := h.out (by simp)
 simp only [Option.some.injEq, Addr.mk.injEq, and_true] at h1
 obtain ⟨rfl, rfl⟩ := h1
 refine ⟨b, i + 1, cells, fr, rfl, h2, fun j s' hj => ?_⟩
 have := h3 (j + 1) s' (by simpa using hj)
 rwa [show i + 1 + j = i + (j + 1) by omega]
/-- a reader with what is left of its words -/
structure Rdr (w : World) (g : Nat) (p0 p1 p2 p3 : Value) (l : List ByteArray) : Prop where mk ::
 (out : ∃ A c, w.heap[g]? = some (.cells #[p0, p1, p2, p3, .slice A l.length c] 67) /\ l.length <= c /\ l.length <= 1073741824 /\ StrAt w A l)
theorem Rdr.move {w w' : World} {g ab : Nat} {p0 p1 p2 p3 : Value} {l : List ByteArray} {o : Obj} (h : Rdr w g p0 p1 p2 p3 l) (hg : w.grownBy w' (some ab)) (ho : w.heap[ab]? = some o) (hne : ∀ cells fr, o ≠ .cells cells 9 fr) (hab : ab ≠ g) : Rdr w' g p0 p1 p2 p3 l := by
 obtain ⟨A, c, h1, h2, h3, h4⟩ := h.out
 exact ⟨A, c, (hg.block g (Array.getElem?_eq_some_iff.1 h1).1 (by simpa using Ne.symm hab)).trans h1, h2, h3, h4.move hg ho hne⟩
theorem Rdr.below {w w' : World} {g : Nat} {p0 p1 p2 p3 : Value} {l : List ByteArray} (h : Rdr w g p0 p1 p2 p3 l) (hb : Below w.heap.size w w') : Rdr w' g p0 p1 p2 p3 l := by
 obtain ⟨A, c, h1, h2, h3, h4⟩ := h.out
 exact ⟨A, c, krow h1 hb, h2, h3, h4.below hb⟩
theorem setCell_grown (w : World) (b i : Nat) (v : Value) : w.grownBy (w.setCell ⟨b, i, none⟩ v) (some b) :=
 ⟨rfl, rfl, rfl, by simp [World.setCell], fun k _ hk => Below.heap_setCell w ⟨b, i, none⟩ v k (by simpa using hk)⟩
theorem next_nil (w : World) (g : Nat) (p0 p1 p2 p3 : Value) (A : Option Addr) (c : Nat) (h : w.heap[g]? = some (.cells #[p0, p1, p2, p3, .slice A 0 c] 67)) :
 Calls Tryz.prog 81 #[.pointer (some ⟨g, 0, none⟩)] w fun e w' => e = .returned (.string ⟨#[]⟩) /\ w = w' := by
 have q4 : w.cell? ⟨g, 4, none⟩ = some (.slice A 0 c) := blk_cell h 4
 clear h
 go_enter Tryz.func81, Tryz.ntmps81
 go_wp2
 go_ret
 exact ⟨rfl, rfl⟩
theorem next_cons (w : World) (g : Nat) (p0 p1 p2 p3 : Value) (b i n c : Nat) (s : ByteArray) (h : w.heap[g]? = some (.cells #[p0, p1, p2, p3, .slice (some ⟨b, i, none⟩) (n + 1) c] 67)) (hc : n + 1 <= c) (hn : n <= 1073741824) (hx : w.cell? ⟨b, i, none⟩ = some (.string s)) :
 Calls Tryz.prog 81 #[.pointer (some ⟨g, 0, none⟩)] w fun e w' => e = .returned (.string s) /\ w' = w.setCell ⟨g, 4, none⟩ (.slice (some (if c = 1 then ⟨b, i, none⟩ else ⟨b, i + 1, none⟩)) n (c - 1)) := by
 have q4 : w.cell? ⟨g, 4, none⟩ = some (.slice (some ⟨b, i, none⟩) (n + 1) c) := blk_cell h 4
 have f4 : w.frozen? ⟨g, 4, none⟩ = false := blk_free h 4
 have t0 : (((n : Int) + 1) == 0) = false := beq_eq_false_iff_ne.2 (by omega)
 clear h
 go_enter Tryz.func81, Tryz.ntmps81
 go_wp2
 all_goals
  go_ret
  exact ⟨rfl, rfl⟩
theorem next_any (w : World) (g : Nat) (p0 p1 p2 p3 : Value) (l : List ByteArray) (h : Rdr w g p0 p1 p2 p3 l) :
 Calls Tryz.prog 81 #[.pointer (some ⟨g, 0, none⟩)] w fun e w' => e = .returned (.string (l.headD ⟨#[]⟩)) /\ (Rdr w' g p0 p1 p2 p3 l.tail /\ w.grownBy w' (some g)) := by
 obtain ⟨A, c, h1, h2, h3, h4⟩ := h.out
 cases l with
 | nil =>
   refine (next_nil w g p0 p1 p2 p3 A c h1).mono ?_
   rintro e w' ⟨rfl, rfl⟩
   exact ⟨rfl, h, World.grownBy.refl _ _⟩
 | cons s t =>
   obtain ⟨b, i, cells, fr, rfl, hb, hx⟩ := h4.out (by simp)
   have hx0 := hx 0 s rfl
   refine (next_cons w g p0 p1 p2 p3 b i t.length c s h1 h2 (by simp at h3; omega) hx0).mono ?_
   rintro e w' ⟨rfl, rfl⟩
   have hg := setCell_grown w g 4 (.slice (some (if c = 1 then ⟨b, i, none⟩ else ⟨b, i + 1, none⟩)) t.length (c - 1))
   refine ⟨rfl, ?_, hg⟩
   have hrow := blk_set h1 4 (.slice (some (if c = 1 then ⟨b, i, none⟩ else ⟨b, i + 1, none⟩)) t.length (c - 1))
   refine ⟨_, _, hrow, by simp at h2; simp; omega, by simp at h3; simp; omega, ?_⟩
   by_cases hc : c = 1
   · have : t = [] := by
      have : t.length = 0 := by simp at h2; omega
      exact List.length_eq_zero_iff.1 this
     subst this
     exact ⟨fun hl => absurd hl (by simp)⟩
   · rw [if_neg hc] at hg ⊢
     exact (h4.tail).move hg h1 (fun cells fr he => by cases he)
def numOf (s : ByteArray) : Int := (numS s).1
theorem number_any (w : World) (g : Nat) (p0 p1 p2 p3 : Value) (l : List ByteArray) (h : Rdr w g p0 p1 p2 p3 l) (hz : (l.headD ⟨#[]⟩).size <= 140737488351232) :
 Calls Tryz.prog 79 #[.pointer (some ⟨g, 0, none⟩)] w fun e w' => e = .returned (.int .u64 (numOf (l.headD ⟨#[]⟩))) /\ (Rdr w' g p0 p1 p2 p3 l.tail /\ w.grownBy w' (some g)) := by
 have cn := Lib.hid (next_any w g p0 p1 p2 p3 l h)
 have cm := Lib.hid (fun w => octet_Number.calls (l.headD ⟨#[]⟩) (numS (l.headD ⟨#[]⟩)).1 (numS (l.headD ⟨#[]⟩)).2 w (by unfold octet_Number.f; rw [if_pos hz]))
 unfold numOf
 generalize (numS (l.headD ⟨#[]⟩)).1 = m1 at *
 generalize (numS (l.headD ⟨#[]⟩)).2 = m2 at *
 generalize l.headD ⟨#[]⟩ = s at *
 clear h hz
 go_enter Tryz.func79, Tryz.ntmps79
 go_wp2_with (first
  | (go_at_call 81
     refine cn.out.mono ?_
     rintro e v ⟨rfl, hr1, hg1⟩
     have HR1 := Zz.mk hr1
     have HG1 := Zz.mk hg1
     clear hr1 hg1)
  | (go_at_call 123
     refine (cm.out _).mono ?_
     rintro e v2 ⟨rfl, hb⟩
     have HR2 := Zz.mk (HR1.out.below hb)
     have HG2 := Zz.mk (HG1.out.trans (grown_of_below hb (some g)))
     clear hb)
  | fail)
 go_ret
 exact ⟨rfl, HR2.out, HG2.out⟩
/-- the number of the name that is so in quotes; -1: there is none -/
def nameIx (l : List ByteArray) (q : ByteArray) : Nat := l.findIdx (fun s => decide (quoteS s = q))
def nameI (l : List ByteArray) (q : ByteArray) : Int := if nameIx l q < l.length then (nameIx l q : Int) else -1
theorem nameIx_hit (l : List ByteArray) (q : ByteArray) (i : Nat) (hi : i < l.length) (h : quoteS (l.getD i ByteArray.empty) = q) (hn : ∀ j < i, quoteS (l.getD j ByteArray.empty) ≠ q) : nameIx l q = i := by
 unfold nameIx
 rw [List.findIdx_eq hi]
 refine ⟨by rw [List.getD_eq_getElem?_getD, List.getElem?_eq_getElem hi] at h; simpa using h, fun j hj => ?_⟩
 have := hn j hj
 rw [List.getD_eq_getElem?_getD, List.getElem?_eq_getElem (show j < l.length by omega)] at this
 simpa using this
theorem nameIx_none (l : List ByteArray) (q : ByteArray) (hn : ∀ j < l.length, quoteS (l.getD j ByteArray.empty) ≠ q) : ¬ nameIx l q < l.length := by
 intro h
 unfold nameIx at h
 have h1 := List.findIdx_getElem (w := h)
 have h2 := hn _ h
 rw [List.getD_eq_getElem?_getD, List.getElem?_eq_getElem h] at h2
 exact h2 (by simpa using h1)
theorem name_clo (s q x : ByteArray) (w : World) (b : Nat) (R : Bool) (hx : w.cell? ⟨b, 0, none⟩ = some (.string q)) (hq : quoteS s = x) (hR : (x.toList == q.toList) = R) (hz : s.size <= 17592186044416) (hT : Zz (Lib.Utf8Tabs 1 2 w)) :
 Calls Tryz.prog 122 #[.string s, .pointer (some ⟨b, 0, none⟩)] w fun e w' => e = .returned (.bool R) /\ Below w.heap.size w w' := by
 have cq := Lib.hid (fun w hT => octet_Quote.calls s x w (by unfold octet_Quote.f; rw [if_pos hz, hq]) hT)
 have hlt : b < w.heap.size := World.block_lt_of_cell? w _ hx
 clear hq
 go_enter Tryz.func122, Tryz.ntmps122
 go_wp2
 refine wp_region_held_drew (S := (fun W => W.cell? ⟨b, 0, none⟩ = some (.string q) /\ Zz (Below w.heap.size w W))) (by kernel_rfl) ?_ (fun hHeld => ?_)
 · try dsimp only
   exact ⟨hx, ⟨(Below.refl _ _).drew⟩⟩
 refine wpAnyH_take (i := 0) (v := ?_) rfl (by kernel_rfl) (by kernel_rfl) (by kernel_rfl) (fun _ _ _ h => h) (Or.inl ⟨by rfl, ?_⟩) (by assumption) ?_
 rotate_left
 · intro w hSw
   try dsimp only at hSw
   go_simp
   try with_reducible rfl
 try simp only [putL]
 refine wpAnyH_take (i := 2) (v := ?_) rfl (by kernel_rfl) (by kernel_rfl) (by kernel_rfl) (fun _ _ _ h => h) (Or.inl ⟨by rfl, ?_⟩) (by assumption) ?_
 rotate_left
 · intro w hSw
   try dsimp only at hSw
   go_simp
   try with_reducible rfl
 try simp only [putL]
 refine wpAnyH_ready (rs := [1]) (by kernel_rfl) (by simp) ?_
 refine AllReadyH.cons rfl (fun K hK => ?_) AllReadyH.nil
 go_simp
 go_at_call 94
 with_reducible refine (cq.out _ (tabs_at hT hHeld.2.out)).mono ?_
 rintro e v2 ⟨rfl, hbz⟩
 try go_wp2_with fail
 refine hK.out _ _ ?_ ?_
 · try dsimp only
   exact ⟨(hbz.cell (p := ⟨b, 0, none⟩) (by have := hHeld.2.out.size; simp; omega)).trans hHeld.1, ⟨hHeld.2.out.trans (hbz.mono hHeld.2.out.size)⟩⟩
 clear hHeld hbz hK K
 intro hHeld
 try simp only [putL]
 refine wpAnyH_take (i := 3) (v := ?_) rfl (by kernel_rfl) (by kernel_rfl) (by kernel_rfl) (fun _ _ _ h => h) (Or.inl ⟨by rfl, ?_⟩) (by assumption) ?_
 rotate_left
 · intro w hSw
   try dsimp only at hSw
   go_simp
   try with_reducible rfl
 try simp only [putL]
 refine wpAnyH_take (i := 4) (v := ?_) rfl (by kernel_rfl) (by kernel_rfl) (by kernel_rfl) (fun _ _ _ h => h) (Or.inl ⟨by rfl, ?_⟩) (by assumption) ?_
 rotate_left
 · intro w hSw
   try dsimp only at hSw
   go_simp
   try with_reducible rfl
 try simp only [putL]
 refine wpAnyH_done (by kernel_rfl) ?_ _
 go_wp2
 go_ret
 exact ⟨rfl, hHeld.2.out⟩
theorem name_ix (A : Option Addr) (c : Nat) (l : List ByteArray) (q : ByteArray) (b : Nat) (w : World) (hA : Kd.C Kd.string w A l.length l) (hc : l.length <= c) (hl : l.length <= 1048576) (hz : ∀ i, (l.getD i ByteArray.empty).size <= 17592186044416) (hx : w.cell? ⟨b, 0, none⟩ = some (.string q)) (hT : Zz (Lib.Utf8Tabs 1 2 w)) :
 Calls Tryz.prog 121 #[.slice A l.length c, .func (.func 122) #[] #[.pointer (some ⟨b, 0, none⟩)]] w fun e w' => e = .returned (.int .i64 (nameI l q)) /\ Below w.heap.size w w' := by
 have HA := Zz.mk hA
 have HZ := Zz.mk hz
 have HX := Zz.mk hx
 clear hA hz hx
 have hlt : b < w.heap.size := World.block_lt_of_cell? w _ HX.out
 have HR := Zz.mk (show nameI l q = nameI l q from rfl)
 generalize hR : nameI l q = R at *
 have HRR := Zz.mk hR
 clear hR HR
 go_enter Tryz.func121, Tryz.ntmps121
 go_wp2
 go_loopw [8] (fun v8 wr => ∃ i : Nat, i <= l.length /\ v8 = .int .i64 (i : Int) /\ Zz (∀ j < i, quoteS (l.getD j ByteArray.empty) ≠ q) /\ Zz (Below w.heap.size w wr)) (fun v8 _ => l.length - (intOf v8).toNat)
 case atStart => exact ⟨0, by omega, rfl, ⟨fun j hj => absurd hj (by omega)⟩, ⟨Below.refl _ _⟩⟩
 case round =>
  obtain ⟨i, hi, rfl, hN, HB⟩ := hrel
  by_cases hlt2 : i < l.length
  · have hti : (i : Int) < (l.length : Int) := by omega
    obtain ⟨ad1, ea1, hx1⟩ := Kd.at_string (Kd.C_below HA.out HB.out) (i : Int) (by omega) hti
    subst ea1
    rw [Int.toNat_natCast] at hx1
    have hn1 : rdOf ByteArray.empty l (i : Int) = l.getD i ByteArray.empty := rfl
    rw [hn1] at hx1
    obtain ⟨x, hx⟩ : ∃ x, x = l.getD i ByteArray.empty := ⟨_, rfl⟩
    have hzx := HZ.out i
    rw [<- hx] at hx1 hzx
    have HXX := Zz.mk hx
    clear hx hn1
    have HW := Zz.mk ((HB.out.cell (p := ⟨b, 0, none⟩) hlt).trans HX.out)
    have HTW := tabs_at hT HB.out
    by_cases he : quoteS x = q
    · have HI := Zz.mk (nameIx_hit l q i hlt2 (by rw [<- HXX.out, he]) hN.out)
      have cc := Lib.hid (name_clo x q (quoteS x) wr b true HW.out rfl (by rw [he]; exact beq_self_eq_true _) hzx HTW)
      obtain rfl : R = (i : Int) := by rw [<- HRR.out, nameI, HI.out, if_pos hlt2]
      clear he HI
      go_wp2_with (first
       | (go_at_call 122
          refine cc.out.mono ?_
          rintro e v2 ⟨rfl, hb⟩
          have HB2 := Zz.mk (HB.out.trans (hb.mono HB.out.size))
          clear hb)
       | fail)
      go_ret
      exact ⟨rfl, HB2.out⟩
    · have cc := Lib.hid (name_clo x q (quoteS x) wr b false HW.out rfl (str_ne he) hzx HTW)
      have HJ : Zz (∀ j < i + 1, quoteS (l.getD j ByteArray.empty) ≠ q) := ⟨fun j hj => by
       rcases Nat.lt_or_ge j i with h | h
       · exact hN.out j h
       · obtain rfl : j = i := by omega
         rw [<- HXX.out]
         exact he⟩
      clear he
      go_wp2_with (first
       | (go_at_call 122
          refine cc.out.mono ?_
          rintro e v2 ⟨rfl, hb⟩
          have HB2 := Zz.mk (HB.out.trans (hb.mono HB.out.size))
          clear hb)
       | fail)
      go_roundw
      case rel => exact ⟨i + 1, by omega, by go_num, HJ, HB2⟩
      case measure => simp [intOf]; omega
  · obtain rfl : i = l.length := by omega
    have HI := Zz.mk (nameIx_none l q hN.out)
    obtain rfl : R = -1 := by rw [<- HRR.out, nameI, if_neg HI.out]
    go_wp2
    go_ret
    exact ⟨rfl, HB.out⟩
theorem name_any (w : World) (g : Nat) (p0 p1 p3 : Value) (A : Option Addr) (c : Nat) (nl : List ByteArray) (l : List ByteArray) (h : Rdr w g p0 p1 (.slice A nl.length c) p3 l) (hE : ∀ W, w.grownBy W (some g) -> Kd.C Kd.string W A nl.length nl /\ Zz (Lib.Utf8Tabs 1 2 W)) (hc : nl.length <= c) (hl : nl.length <= 1048576) (hz : ∀ i, (nl.getD i ByteArray.empty).size <= 17592186044416) :
 Calls Tryz.prog 78 #[.pointer (some ⟨g, 0, none⟩)] w fun e w' => e = .returned (.int .i64 (nameI nl (l.headD ⟨#[]⟩))) /\ (Rdr w' g p0 p1 (.slice A nl.length c) p3 l.tail /\ w.grownBy w' (some g)) := by
 have cn := Lib.hid (next_any w g p0 p1 (.slice A nl.length c) p3 l h)
 have HE := Zz.mk hE
 have hg0 : g < w.heap.size := by obtain ⟨_, _, h1, _⟩ := h.out; exact (Array.getElem?_eq_some_iff.1 h1).1
 have HZ := Zz.mk hz
 have HL := Zz.mk (And.intro hc hl)
 generalize l.headD ⟨#[]⟩ = q at *
 generalize hR : nameI nl q = R at *
 have HR := Zz.mk hR
 clear h hE hz hR hc hl
 go_enter Tryz.func78, Tryz.ntmps78
 go_wp2_with (go_at_call 81; refine cn.out.mono ?_)
 rintro e v ⟨rfl, hr1, hg1⟩
 have HR1 := Zz.mk hr1
 have HG1 := Zz.mk hg1
 obtain ⟨A1, c1, hrow, _, _, _⟩ := hr1.out
 have HROW := Zz.mk hrow
 have hgv : g < v.heap.size := (Array.getElem?_eq_some_iff.1 hrow).1
 clear hr1 hg1 hrow cn
 have q2 : ∀ o, (v.alloc o).cell? ⟨g, 2, none⟩ = some (.slice A nl.length c) := fun o => blk_cell (knew HROW.out) 2
 have hT2 : ∀ o, w.grownBy (v.alloc o) (some g) := fun o => HG1.out.trans (World.grownBy_alloc v o (some g))
 have HT2 := Zz.mk hT2
 have cx := Lib.hid (fun (hx : (v.alloc (.cells #[.string q] 9)).cell? ⟨v.heap.size, 0, none⟩ = some (.string q)) => name_ix A c nl q v.heap.size (v.alloc (.cells #[.string q] 9)) (HE.out _ (hT2 _)).1 HL.out.1 HL.out.2 HZ.out hx (HE.out _ (hT2 _)).2)
 rw [HR.out] at cx
 clear hT2
 go_wp2_with (first
  | (go_at_call 121
     refine (cx.out (blk_cell (heap_alloc_new v _) 0)).mono ?_
     rintro e v2 ⟨rfl, hb⟩
     have HR2 := Zz.mk (((HR1.out).below ((Below.refl _ _).alloc (Nat.le_refl _) _)).below hb)
     have HG2 := Zz.mk ((HT2.out _).trans (grown_of_below hb (some g)))
     clear hb)
  | fail)
 go_ret
 exact ⟨rfl, HR2.out, HG2.out⟩
/-- the marks of a text -/
def marksOf (l : List (Nat × Nat × Nat)) : List Bool := l.map fun x => decide (x.2.1 = 43)
def trimDot (s : ByteArray) : ByteArray := ⟨(Lib.trimPrefix s.data.toList (⟨#[46]⟩ : ByteArray).data.toList).toArray⟩
def pickOf (s : ByteArray) : List Bool := marksOf (runesOf (trimDot s))
theorem own_bool {w : World} {base : Nat} {v : Value} {l : List Bool} (h : w.ownsRow base 4 1 v l.length (l.map .bool)) : Kd.R Kd.bool 4 w base (fun _ => True) v l := by
 refine ⟨fun _ _ => trivial, l.map .bool, h, ?_, fun j p hj => ?_⟩
 · show _ = _ * 1
   simp
 · show ((l.map Value.bool).drop (j * 1)).take 1 = [Value.bool p]
   rw [Nat.mul_one]
   have hlt : j < l.length := by
    rcases Nat.lt_or_ge j l.length with h | h
    · exact h
    · rw [List.getElem?_eq_none h] at hj; cases hj
   rw [List.getElem?_eq_getElem hlt] at hj
   obtain rfl := Option.some.inj hj
   rw [List.drop_eq_getElem_cons (by simpa using hlt)]
   simp
theorem info_bool : (Tryz.prog.info? 4).map (fun i => (i.zero, i.size, i.bytes)) = some (some (.bool false), 1, 1) := by kernel_rfl
theorem StrAt.step {w w' : World} {A : Option Addr} {l : List ByteArray} {row : Option Nat} (h : StrAt w A l) (hg : w.grownBy w' row) (hrow : ∀ k, row = some k -> ∀ cells fr, w.heap[k]? ≠ some (.cells cells 9 fr)) : StrAt w' A l := by
 refine ⟨fun hl => ?_⟩
 obtain ⟨b, i, cells, fr, h1, h2, h3⟩ := h.out hl
 have hb : some b ≠ row := fun e => hrow b e.symm _ _ h2
 have hk := hg.block b (Array.getElem?_eq_some_iff.1 h2).1 hb
 exact ⟨b, i, cells, fr, h1, hk.trans h2, fun j s hj => hg.cell (h3 j s hj) hb⟩
theorem Rdr.step {w w' : World} {g : Nat} {p0 p1 p2 p3 : Value} {l : List ByteArray} {row : Option Nat} (h : Rdr w g p0 p1 p2 p3 l) (hg : w.grownBy w' row) (hrow : ∀ k, row = some k -> k ≠ g /\ ∀ cells fr, w.heap[k]? ≠ some (.cells cells 9 fr)) : Rdr w' g p0 p1 p2 p3 l := by
 obtain ⟨A, c, h1, h2, h3, h4⟩ := h.out
 exact ⟨A, c, (hg.block g (Array.getElem?_eq_some_iff.1 h1).1 (fun e => (hrow g e.symm).1 rfl)).trans h1, h2, h3, h4.step hg (fun k hk => (hrow k hk).2)⟩
theorem grown_more {w W W' : World} {r r' : Option Nat} (h : w.grownBy W r) (hg : W.grownBy W' r') (hn : ∀ k, r' = some k -> w.heap.size <= k) : w.grownBy W' r :=
 ⟨hg.os.trans h.os, hg.tape.trans h.tape, hg.output.trans h.output, Nat.le_trans h.size hg.size, fun k hk hne => (hg.block k (Nat.lt_of_lt_of_le hk h.size) (fun e => by have := hn k e.symm; omega)).trans (h.block k hk hne)⟩
theorem iterAt_grown (w : World) (k : Nat) (s : ByteArray) (p : Nat) : w.grownBy (w.iterAt k s p) (some k) :=
 ⟨rfl, rfl, rfl, by rw [Lib.iterAt_size]; exact Nat.le_refl _, fun i hi hne => Lib.iterAt_other w k i s p (fun e => hne (by rw [e]))⟩
def PickPost (w : World) (g : Nat) (p0 p1 p2 p3 : Value) (l : List ByteArray) (e : Ending) (w' : World) : Prop := ∃ v, e = .returned (.iface 32 v) /\ Kd.R Kd.bool 4 w' w.heap.size (fun _ => True) v (pickOf (l.headD ⟨#[]⟩)) /\ Rdr w' g p0 p1 p2 p3 l.tail /\ w.grownBy w' (some g)
theorem PickPost.mk {w : World} {g : Nat} {p0 p1 p2 p3 : Value} {l t : List ByteArray} {s : ByteArray} {w' : World} {v : Value} {L : List Bool} (hs : l.headD ⟨#[]⟩ = s) (ht : l.tail = t) (hL : L = pickOf s) (hv : w'.ownsRow w.heap.size 4 1 v L.length (L.map .bool)) (hr : Rdr w' g p0 p1 p2 p3 t) (hg : w.grownBy w' (some g)) : PickPost w g p0 p1 p2 p3 l (.returned (.iface 32 v)) w' := by
 subst hs ht hL
 exact ⟨v, rfl, own_bool hv, hr, hg⟩
theorem trimDot_size (s : ByteArray) : (trimDot s).size <= s.size := by
 have : (Lib.trimPrefix s.data.toList (⟨#[46]⟩ : ByteArray).data.toList).length <= s.data.toList.length := by
  unfold Lib.trimPrefix
  split
  · rw [List.length_drop]; omega
  · exact Nat.le_refl _
 rw [Array.length_toList] at this
 unfold trimDot
 show (Lib.trimPrefix s.data.toList (⟨#[46]⟩ : ByteArray).data.toList).toArray.size <= _
 rw [List.size_toArray]
 exact this
theorem value_p (w : World) (g : Nat) (p0 p1 p2 p3 : Value) (l : List ByteArray) (h : Rdr w g p0 p1 p2 p3 l) (hz : (l.headD ⟨#[]⟩).size <= 1073741824) :
 Calls Tryz.prog 38 #[.pointer (some ⟨g, 0, none⟩), .int .i32 112] w (PickPost w g p0 p1 p2 p3 l) := by
 obtain ⟨i0, hi, hz0, hz1, hz2⟩ := info_parts info_bool
 have cn := Lib.hid (next_any w g p0 p1 p2 p3 l h)
 have hgw : g < w.heap.size := by obtain ⟨_, _, h1, _⟩ := h.out; exact (Array.getElem?_eq_some_iff.1 h1).1
 have HS : Zz (l.headD ⟨#[]⟩ = l.headD ⟨#[]⟩) := ⟨rfl⟩
 have HTL : Zz (l.tail = l.tail) := ⟨rfl⟩
 generalize hs : l.headD ⟨#[]⟩ = s at *
 generalize ht : l.tail = t at *
 replace HS := Zz.mk hs
 replace HTL := Zz.mk ht
 have ct := Lib.hid (fun w => Tryz.strings_TrimPrefix s ⟨#[46]⟩ w)
 have HDT := Zz.mk (show (⟨(Lib.trimPrefix s.data.toList (⟨#[46]⟩ : ByteArray).data.toList).toArray⟩ : ByteArray) = trimDot s from rfl)
 have hTz := trimDot_size s
 have HPK := Zz.mk (show marksOf (runesOf (trimDot s)) = pickOf s from rfl)
 rw [HDT.out] at ct
 generalize trimDot s = T at *
 clear h hs ht HDT
 go_enter Tryz.func38, Tryz.ntmps38
 go_wp2_with (first
  | (go_at_call 81
     refine cn.out.mono ?_
     rintro e v ⟨rfl, hr1, hg1⟩
     have HR1 := Zz.mk hr1
     have HG1 := Zz.mk hg1
     clear hr1 hg1 cn)
  | (go_at_call 83
     refine (ct.out _).mono ?_
     rintro e v2 ⟨rfl, hv⟩
     obtain rfl := hv.symm
     clear ct)
  | fail)
 go_loopw [11] (fun v11 wr => ∃ (pos fuel : Nat) (L : List Bool), wr.heap[v.heap.size]? = some (.stringIter T pos) /\ Zz (wr.ownsRow w.heap.size 4 1 v11 L.length (L.map .bool)) /\ Zz (L ++ marksOf (rns T fuel pos) = marksOf (runesOf T) /\ T.size <= pos + fuel /\ pos <= T.size) /\ L.length <= pos /\ Zz (Rdr wr g p0 p1 p2 p3 t) /\ Zz (w.grownBy wr (some g))) (fun _ wr => T.size - wr.iterPos v.heap.size)
 case atStart => exact ⟨0, T.size, [], iter_new v T, ⟨World.ownsRow_nil _ _ _ _⟩, ⟨rfl, by omega, by omega⟩, by simp, ⟨HR1.out.below (below_iter v T)⟩, ⟨HG1.out.trans (grown_of_below (below_iter v T) _)⟩⟩
 case round =>
  obtain ⟨pos, fuel, L, hit, HO, HL, hLp, HR, HG⟩ := hrel
  have hvs := HG1.out.size
  by_cases hp : pos < T.size
  · have hw1 := Lib.decode_width_pos T pos hp
    have hwl := width_le T pos hp
    have hnx := fun ty => Lib.run_next_any_at (P := Tryz.prog) wr v.heap.size T pos ty hit hp
    obtain ⟨f2, hf2, he2⟩ := rns_step T fuel pos hp HL.out.2.1
    have HI := Zz.mk (Lib.iterAt_heap wr v.heap.size T pos (pos + (Utf8.decode T pos).2) hit)
    have HM0 := iter_less hw1 hit hp
    have HMM : Zz (T.size - (pos + (Utf8.decode T pos).2) < T.size - wr.iterPos v.heap.size) := ⟨by rwa [iterPos_of HI.out] at HM0⟩
    have HOI := Zz.mk (row_iterAt HO.out hit (pos + (Utf8.decode T pos).2))
    have HRI := Zz.mk (HR.out.step (iterAt_grown wr v.heap.size T (pos + (Utf8.decode T pos).2)) (fun k hk => by cases hk; exact ⟨by omega, fun cells fr he => by rw [hit] at he; cases he⟩))
    have HGI := Zz.mk (grown_more HG.out (iterAt_grown wr v.heap.size T (pos + (Utf8.decode T pos).2)) (fun k hk => by cases hk; exact hvs))
    have HL2 : Zz ((L ++ [decide ((Utf8.decode T pos).1 = 43)]) ++ marksOf (rns T f2 (pos + (Utf8.decode T pos).2)) = marksOf (runesOf T)) := ⟨by have := HL.out.1; rw [he2] at this; simpa [marksOf] using this⟩
    clear HM0 HO HR HG HL he2
    generalize hd : Utf8.decode T pos = d at *
    obtain ⟨r, wd⟩ := d
    simp only at *
    have hwl1 := hwl.1
    have HF := Zz.mk hf2
    have t43 : ((r : Int) == 43) = decide (r = 43) := by by_cases h : r = 43 <;> simp [h]; omega
    have hgi := HGI.out.size
    clear hd hf2
    generalize decide (r = 43) = bb at *
    generalize hWI : wr.iterAt v.heap.size T (pos + wd) = wi at *
    go_wp2_with (first
     | (at_builtin
        refine wpList_append_own _ rfl _ _ 32 rfl w.heap.size 4 i0 _ 1 1 Tryz.underlying32 hi hz0 hz1 hz2 rfl (by decide) _ _ _ rfl (HOI.out.alloc _) ⟨wi.heap.size, 0, none⟩ 1 1 [.bool bb] rfl rfl (World.news_of_block (cs := #[.bool bb]) (t := 4) (fr := (0, 0)) (heap_alloc_new _ _)) (by simp [Value.oneCell']) (by simp only [maxLen]; omega) (by omega) (by simp; omega) ?_
        intro v3 w3 hown3 hg3 hx3
        clear hx3
        have HI3 := Zz.mk (iter_grown (HOI.out.alloc _) hg3 (iter_alloc HI.out _))
        have HR3 := Zz.mk (((HRI.out.below ((Below.refl _ _).alloc (Nat.le_refl _) _)).step hg3 (fun k hk => ⟨by have := own_base HOI.out k hk; omega, fun cells fr he => by obtain ⟨c3, h3⟩ := own_typed (HOI.out.alloc _) k hk; rw [h3] at he; cases he⟩)))
        have HG3 := Zz.mk (grown_more (HGI.out.trans (World.grownBy_alloc wi _ _)) hg3 (fun k hk => own_base HOI.out k hk))
        have HO3 := Zz.mk hown3
        clear hown3 hg3))
    go_roundw
    case rel => exact ⟨pos + wd, f2, L ++ [bb], HI3.out, ⟨by simpa using HO3.out⟩, ⟨HL2.out, HF.out, hwl1⟩, by simp; omega, HR3, HG3⟩
    case measure => rw [iterPos_of HI3.out]; exact HMM.out
  · have hnx := fun ty => Lib.run_next_end_at (P := Tryz.prog) wr v.heap.size T pos ty hit hp
    have HLL : Zz (L = pickOf s) := ⟨by have := HL.out.1; rw [rns_end T fuel pos hp] at this; rw [<- HPK.out, <- this]; simp [marksOf]⟩
    go_wp2
    go_ret
    exact PickPost.mk HS.out HTL.out HLL.out HO.out HR.out HG.out
theorem krow2 {w v : World} {b : Nat} {o : Obj} (h : w.heap[b]? = some o) (hb : Below w.heap.size w v) : v.heap[b]? = some o := krow h hb
theorem row_clo (x y q : ByteArray) (w : World) (wb b i n c : Nat) (R : Bool) (hw : w.cell? ⟨wb, 0, none⟩ = some (.slice (some ⟨b, i, none⟩) n c)) (hn : 0 < n) (hq : w.cell? ⟨b, i, none⟩ = some (.string q)) (hR : (x.toList == q.toList) = R) :
 Calls Tryz.prog 35 #[.agg #[.string x, .string y], .pointer (some ⟨wb, 0, none⟩)] w fun e w' => e = .returned (.bool R) /\ Below w.heap.size w w' := by
 have h1 : wb < w.heap.size := World.block_lt_of_cell? w _ hw
 have h2 : b < w.heap.size := World.block_lt_of_cell? w _ hq
 have hn1 : (0 : Int) < (n : Int) := by omega
 go_enter Tryz.func35, Tryz.ntmps35
 go_wp2
 refine wp_region_held_drew (S := (fun W => W.cell? ⟨w.heap.size, 0, none⟩ = some (.string x) /\ W.cell? ⟨wb, 0, none⟩ = some (.slice (some ⟨b, i, none⟩) n c) /\ W.cell? ⟨b, i, none⟩ = some (.string q) /\ Zz (Below w.heap.size w W))) (by kernel_rfl) ?_ (fun hHeld => ?_)
 · try dsimp only
   exact ⟨blk_cell (heap_alloc_new w (.cells #[.string x, .string y] 59)) 0, ((Below.cell ((Below.refl w.heap.size w).alloc (Nat.le_refl _) (.cells #[.string x, .string y] 59)) (p := ⟨wb, 0, none⟩) h1).trans hw), ((Below.cell ((Below.refl w.heap.size w).alloc (Nat.le_refl _) (.cells #[.string x, .string y] 59)) (p := ⟨b, i, none⟩) h2).trans hq), ⟨((Below.refl w.heap.size w).alloc (Nat.le_refl _) (.cells #[.string x, .string y] 59)).drew⟩⟩
 refine wpAnyH_take (i := 0) (v := ?_) rfl (by kernel_rfl) (by kernel_rfl) (by kernel_rfl) (fun _ _ _ h => h) (Or.inl ⟨by rfl, ?_⟩) (by assumption) ?_
 rotate_left
 · intro w hSw
   try dsimp only at hSw
   go_simp
   try with_reducible rfl
 try simp only [putL]
 refine wpAnyH_take (i := 1) (v := ?_) rfl (by kernel_rfl) (by kernel_rfl) (by kernel_rfl) (fun _ _ _ h => h) (Or.inl ⟨by rfl, ?_⟩) (by assumption) ?_
 rotate_left
 · intro w hSw
   try dsimp only at hSw
   go_simp
   try with_reducible rfl
 try simp only [putL]
 refine wpAnyH_take (i := 2) (v := ?_) rfl (by kernel_rfl) (by kernel_rfl) (by kernel_rfl) (fun _ _ _ h => h) (Or.inl ⟨by rfl, ?_⟩) (by assumption) ?_
 rotate_left
 · intro w hSw
   try dsimp only at hSw
   go_simp
   try with_reducible rfl
 try simp only [putL]
 refine wpAnyH_take (i := 3) (v := ?_) rfl (by kernel_rfl) (by kernel_rfl) (by kernel_rfl) (fun _ _ _ h => h) (Or.inl ⟨by rfl, ?_⟩) (by assumption) ?_
 rotate_left
 · intro w hSw
   try dsimp only at hSw
   go_simp
   try with_reducible rfl
 try simp only [putL]
 refine wpAnyH_take (i := 4) (v := ?_) rfl (by kernel_rfl) (by kernel_rfl) (by kernel_rfl) (fun _ _ _ h => h) (Or.inl ⟨by rfl, ?_⟩) (by assumption) ?_
 rotate_left
 · intro w hSw
   try dsimp only at hSw
   go_simp
   try with_reducible rfl
 try simp only [putL]
 refine wpAnyH_take (i := 5) (v := ?_) rfl (by kernel_rfl) (by kernel_rfl) (by kernel_rfl) (fun _ _ _ h => h) (Or.inl ⟨by rfl, ?_⟩) (by assumption) ?_
 rotate_left
 · intro w hSw
   try dsimp only at hSw
   go_simp
   try with_reducible rfl
 try simp only [putL]
 refine wpAnyH_take (i := 6) (v := ?_) rfl (by kernel_rfl) (by kernel_rfl) (by kernel_rfl) (fun _ _ _ h => h) (Or.inl ⟨by rfl, ?_⟩) (by assumption) ?_
 rotate_left
 · intro w hSw
   try dsimp only at hSw
   go_simp
   try with_reducible rfl
 try simp only [putL]
 refine wpAnyH_done (by kernel_rfl) ?_ _
 go_wp2
 go_ret
 exact ⟨rfl, hHeld.2.2.2.out⟩
def rowIx (q : ByteArray) : Nat := rowTab.findIdx (fun x => decide (x.1 = q))
def rowI (q : ByteArray) : Int := if rowIx q < 18 then (rowIx q : Int) else -1
theorem rowTab_len : rowTab.length = 18 := by decide
theorem rowIx_hit (q : ByteArray) (i : Nat) (hi : i < 18) (h : (rowTab.getD i (⟨#[]⟩, ⟨#[]⟩)).1 = q) (hn : ∀ j < i, (rowTab.getD j (⟨#[]⟩, ⟨#[]⟩)).1 ≠ q) : rowIx q = i := by
 unfold rowIx
 rw [List.findIdx_eq (by rw [rowTab_len]; exact hi)]
 refine ⟨by rw [List.getD_eq_getElem?_getD, List.getElem?_eq_getElem (by rw [rowTab_len]; exact hi)] at h; simpa using h, fun j hj => ?_⟩
 have := hn j hj
 rw [List.getD_eq_getElem?_getD, List.getElem?_eq_getElem (by rw [rowTab_len]; omega)] at this
 simpa using this
theorem rowIx_none (q : ByteArray) (hn : ∀ j < 18, (rowTab.getD j (⟨#[]⟩, ⟨#[]⟩)).1 ≠ q) : ¬ rowIx q < 18 := by
 intro h
 unfold rowIx at h
 have h' : rowTab.findIdx (fun x => decide (x.1 = q)) < rowTab.length := by rw [rowTab_len]; exact h
 have h1 := List.findIdx_getElem (w := h')
 have h2 := hn _ h
 rw [List.getD_eq_getElem?_getD, List.getElem?_eq_getElem h'] at h2
 exact h2 (by simpa using h1)
theorem row_ix (q : ByteArray) (w : World) (rb wb b i n c : Nat) (hr : w.heap[rb]? = some (.cells rowC 60)) (hw : w.cell? ⟨wb, 0, none⟩ = some (.slice (some ⟨b, i, none⟩) n c)) (hn : 0 < n) (hq : w.cell? ⟨b, i, none⟩ = some (.string q)) :
 Calls Tryz.prog 34 #[.slice (some ⟨rb, 0, none⟩) 18 18, .func (.func 35) #[] #[.pointer (some ⟨wb, 0, none⟩)]] w fun e w' => e = .returned (.int .i64 (rowI q)) /\ Below w.heap.size w w' := by
 have HRR := Zz.mk hr
 have HWW := Zz.mk hw
 have HQQ := Zz.mk hq
 clear hr hw hq
 generalize hR : rowI q = R at *
 have HR := Zz.mk hR
 clear hR
 go_enter Tryz.func34, Tryz.ntmps34
 go_wp2
 go_loopw [8] (fun v8 wr => ∃ k : Nat, k <= 18 /\ v8 = .int .i64 (k : Int) /\ Zz (∀ j < k, (rowTab.getD j (⟨#[]⟩, ⟨#[]⟩)).1 ≠ q) /\ Zz (Below w.heap.size w wr)) (fun v8 _ => 18 - (intOf v8).toNat)
 case atStart => exact ⟨0, by omega, rfl, ⟨fun j hj => absurd hj (by omega)⟩, ⟨Below.refl _ _⟩⟩
 case round =>
  obtain ⟨k, hk, rfl, hN, HB⟩ := hrel
  by_cases hlt : k < 18
  · obtain ⟨x1, x2⟩ := rowC_at k hlt
    have hti : (k : Int) < 18 := by omega
    have hti0 : (0 : Int) <= (k : Int) := by omega
    have HRW := Zz.mk (krow2 HRR.out HB.out)
    have c1 : wr.cell? ⟨rb, k * 2, none⟩ = rowC[k * 2]? := blk_cell HRW.out (k * 2)
    have c2 : wr.cell? ⟨rb, k * 2 + 1, none⟩ = rowC[k * 2 + 1]? := blk_cell HRW.out (k * 2 + 1)
    rw [x1] at c1
    rw [x2] at c2
    obtain ⟨xy, hxy⟩ : ∃ xy, xy = rowTab.getD k (⟨#[]⟩, ⟨#[]⟩) := ⟨_, rfl⟩
    rw [<- hxy] at c1 c2
    have HXX := Zz.mk hxy
    obtain ⟨x, y⟩ := xy
    simp only at c1 c2
    have HW := Zz.mk ((HB.out.cell (p := ⟨wb, 0, none⟩) (World.block_lt_of_cell? w _ HWW.out)).trans HWW.out)
    have HQ := Zz.mk ((HB.out.cell (p := ⟨b, i, none⟩) (World.block_lt_of_cell? w _ HQQ.out)).trans HQQ.out)
    have HAD : Zz ((⟨rb, 0, none⟩ : Addr).add (k * 2) = ⟨rb, k * 2, none⟩) := ⟨by unfold Addr.add; by_cases h : k * 2 = 0 <;> simp [h]⟩
    clear x1 x2 hxy
    by_cases he : x = q
    · have HI := Zz.mk (rowIx_hit q k hlt (by rw [<- HXX.out]; exact he) hN.out)
      have cc := Lib.hid (row_clo x y q wr wb b i n c true HW.out hn HQ.out (by rw [he]; exact beq_self_eq_true _))
      obtain rfl : R = (k : Int) := by rw [<- HR.out, rowI, HI.out, if_pos hlt]
      have had := HAD.out
      clear he HI
      go_wp2_with (first
       | (go_at_call 35
          refine cc.out.mono ?_
          rintro e v2 ⟨rfl, hb⟩
          have HB2 := Zz.mk (HB.out.trans (hb.mono HB.out.size))
          clear hb)
       | fail)
      go_ret
      exact ⟨rfl, HB2.out⟩
    · have cc := Lib.hid (row_clo x y q wr wb b i n c false HW.out hn HQ.out (str_ne he))
      have HJ : Zz (∀ j < k + 1, (rowTab.getD j (⟨#[]⟩, ⟨#[]⟩)).1 ≠ q) := ⟨fun j hj => by
       rcases Nat.lt_or_ge j k with h | h
       · exact hN.out j h
       · obtain rfl : j = k := by omega
         rw [<- HXX.out]
         exact he⟩
      have had := HAD.out
      clear he
      go_wp2_with (first
       | (go_at_call 35
          refine cc.out.mono ?_
          rintro e v2 ⟨rfl, hb⟩
          have HB2 := Zz.mk (HB.out.trans (hb.mono HB.out.size))
          clear hb)
       | fail)
      go_roundw
      case rel => exact ⟨k + 1, by omega, by go_num, HJ, HB2⟩
      case measure => simp [intOf]; omega
  · obtain rfl : k = 18 := by omega
    have HI := Zz.mk (rowIx_none q hN.out)
    obtain rfl : R = -1 := by rw [<- HR.out, rowI, if_neg HI.out]
    go_wp2
    go_ret
    exact ⟨rfl, HB.out⟩
end Go.Proofs.YtpdinahdcedmkaaGreatDoor.ExtQ
namespace Go.Proofs.YtpdinahdcedmkaaGreatDoor.Spec
def fBytes (f : Int) : Int := if f = 1 \/ f = 3 then 24 else 32
def fShake (f : Int) : Bool := decide (2 <= f)
/-- The sets of LM-OTS: shake, n, w, p, ls. -/
def otsTab : Nat -> Option (Bool × Int × Int × Int × Int)
 | 1 => some (false, 32, 1, 265, 7)
 | 2 => some (false, 32, 2, 133, 6)
 | 3 => some (false, 32, 4, 67, 4)
 | 4 => some (false, 32, 8, 34, 0)
 | 5 => some (false, 24, 1, 200, 8)
 | 6 => some (false, 24, 2, 101, 6)
 | 7 => some (false, 24, 4, 51, 4)
 | 8 => some (false, 24, 8, 26, 0)
 | 9 => some (true, 32, 1, 265, 7)
 | 10 => some (true, 32, 2, 133, 6)
 | 11 => some (true, 32, 4, 67, 4)
 | 12 => some (true, 32, 8, 34, 0)
 | 13 => some (true, 24, 1, 200, 8)
 | 14 => some (true, 24, 2, 101, 6)
 | 15 => some (true, 24, 4, 51, 4)
 | 16 => some (true, 24, 8, 26, 0)
 | _ => none
theorem otsTab_big (n : Nat) (h : 16 < n) : otsTab n = none := by
 unfold otsTab
 split <;> first | omega | rfl
structure OtsR where
 (code : Int) (shake : Bool) (n w p ls : Int)
structure LmsR where
 (code : Int) (shake : Bool) (n h : Int)
structure XmsR where
 (code : Int) (shake : Bool) (n h len : Int)
def OtsR.zero : OtsR := ⟨0, false, 0, 0, 0, 0⟩
def LmsR.zero : LmsR := ⟨0, false, 0, 0⟩
def XmsR.zero : XmsR := ⟨0, false, 0, 0, 0⟩
def OtsR.enc (o : OtsR) : Value := .agg #[.int .u32 o.code, .bool o.shake, .int .i64 o.n, .int .i64 o.w, .int .i64 o.p, .int .i64 o.ls]
def LmsR.enc (o : LmsR) : Value := .agg #[.int .u32 o.code, .bool o.shake, .int .i64 o.n, .int .i64 o.h]
def XmsR.enc (o : XmsR) : Value := .agg #[.int .u32 o.code, .bool o.shake, .int .i64 o.n, .int .i64 o.h, .int .i64 o.len]
def ots (c : Int) : OtsR × Int :=
 match otsTab c.toNat with
 | some (s, n, w, p, l) => (⟨c, s, n, w, p, l⟩, 0)
 | none => (OtsR.zero, 60)
/-- family and height of one of our own -/
def ownFam (c first : Int) : Option (Int × Int) :=
 if first <= c /\ c < first + 64 /\ 1 <= (c - first) % 16 /\ (c - first) % 16 <= 4 then some ((c - first) / 16, (c - first) % 16) else none
def lmsFam (c : Int) : Option (Int × Int) :=
 if 5 <= c /\ c <= 24 then some ((c - 5) / 5, 5 * (c % 5 + 1)) else ownFam c 4026531840
def height (i : Int) : Int := if i = 0 then 10 else if i = 1 then 16 else 20
def xmsFam (c : Int) : Option (Int × Int) :=
 if 1 <= c /\ c <= 3 then some (0, height (c - 1)) else if 13 <= c /\ c <= 21 then some (1 + (c - 13) / 3, height ((c - 13) % 3)) else ownFam c 4043309056
def lms (c : Int) : LmsR × Int :=
 match lmsFam c with
 | some (f, h) => (⟨c, fShake f, fBytes f, h⟩, 0)
 | none => (LmsR.zero, 60)
def xms (c : Int) : XmsR × Int :=
 match xmsFam c with
 | some (f, h) => (⟨c, fShake f, fBytes f, h, 2 * fBytes f + 3⟩, 0)
 | none => (XmsR.zero, 60)
theorem lms_eq {c f h : Int} (e : lmsFam c = some (f, h)) : lms c = (⟨c, fShake f, fBytes f, h⟩, 0) := by unfold lms; rw [e]
theorem lms_no {c : Int} (e : lmsFam c = none) : lms c = (LmsR.zero, 60) := by unfold lms; rw [e]
theorem xms_eq {c f h : Int} (e : xmsFam c = some (f, h)) : xms c = (⟨c, fShake f, fBytes f, h, 2 * fBytes f + 3⟩, 0) := by unfold xms; rw [e]
theorem xms_no {c : Int} (e : xmsFam c = none) : xms c = (XmsR.zero, 60) := by unfold xms; rw [e]
def known (kind c : Int) : Bool :=
 if kind = 1 then (ots c).2 == 0 else if kind = 2 then (lms c).2 == 0 else if kind = 3 then (xms c).2 == 0 else false
end Go.Proofs.YtpdinahdcedmkaaGreatDoor.Spec
