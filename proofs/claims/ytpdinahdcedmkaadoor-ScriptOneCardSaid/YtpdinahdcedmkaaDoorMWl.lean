import Derived.Test.YtpdinahdcedmkaaDoorQ0
import Derived.Test.YtpdinahdcedmkaaDoorMHead
import Derived.Test.YtpdinahdcedmkaaDoorMSayS
import Derived.Lib.MapLaws
import Derived.Lib.RuneCount
/- The contracts of octet.Quote, script.headed and script.picked, in the printer's form. -/
namespace Go.Proofs.YtpdinahdcedmkaaDoor.ExtQ
open Go.Proofs.YtpdinahdcedmkaaDoor.Ext
open Go.Proofs.YtpdinahdcedmkaaDoor.Q
set_option linter.unusedVariables false
open Go.RowKit Go.Proofs.YtpdinahdcedmkaaDoorW.PrintLast Go.Proofs.YtpdinahdcedmkaaDoorW.PrintMore
open Go.Proofs.YtpdinahdcedmkaaDoorW.PrintWords hiding blk_cell blk_set nums_append

theorem tabs_at {w W : World} (hT : Aside0 (Lib.Utf8Tabs 0 1 w)) (hb : Below w.heap.size w W) : Aside0 (Lib.Utf8Tabs 0 1 W) := ⟨Utf8Tabs_below hT.out hb⟩
def octet_Quote.f (a0 : ByteArray) : Option ByteArray := if a0.size ≤ 17592186044416 then some (quoteS a0) else none
theorem octet_Quote.calls (a0 : ByteArray) (r : ByteArray) (w : World) (h : octet_Quote.f a0 = some r) (hT : Aside0 (Lib.Utf8Tabs 0 1 w) := by exact tabs_at HT (by repeat (first | (with_reducible first | exact HB.out | apply below_alloc | apply pw_below_drewN | apply below_drew1) | exact HB.out))) :
    Calls Tryd.prog 51 #[.string a0] w fun e w' => e = .returned (.string r) ∧ Below w.heap.size w w' := by
  unfold octet_Quote.f at h
  by_cases h0 : a0.size ≤ 17592186044416
  · rw [if_pos h0] at h
    obtain rfl := Option.some.inj h
    exact quote_walk a0 w h0 hT.out
  · rw [if_neg h0] at h; cases h
/-- the names' lengths are bounded -/
def smallL (l : List ByteArray) : Bool := decide (l.length ≤ 1048576) && l.all fun s => decide (s.size ≤ 140737488351232)
theorem smallL_len {l : List ByteArray} (h : smallL l = true) : l.length ≤ 1048576 := by
  unfold smallL at h; simp only [Bool.and_eq_true, decide_eq_true_eq] at h; exact h.1
theorem smallL_at {l : List ByteArray} (h : smallL l = true) (i : Nat) : (l.getD i ByteArray.empty).size ≤ 140737488351232 := by
  unfold smallL at h
  simp only [Bool.and_eq_true, decide_eq_true_eq, List.all_eq_true] at h
  rw [List.getD_eq_getElem?_getD]
  by_cases hi : i < l.length
  · rw [List.getElem?_eq_getElem hi]; exact h.2 _ (List.getElem_mem hi)
  · rw [List.getElem?_eq_none (by omega)]; decide
def script_headed.f (a0_0 : Int) (a0_1 : Int) (l0_2 : List ByteArray) (l0_3 : List (S42)) : Option Bool := if smallL l0_2 = true then some (headedS a0_0 a0_1 l0_2) else none
theorem script_headed.calls (a0_0 : Int) (a0_1 : Int) (A0_2 : Option Addr) (c0_2 : Nat) (l0_2 : List ByteArray) (A0_3 : Option Addr) (c0_3 : Nat) (l0_3 : List (S42)) (r : Bool) (w : World) (hr0_2 : Kd.C Kd.string w A0_2 l0_2.length l0_2) (hc0_2 : l0_2.length ≤ c0_2) (hr0_3 : Kd.C k42 w A0_3 l0_3.length l0_3) (hc0_3 : l0_3.length ≤ c0_3) (h : script_headed.f a0_0 a0_1 l0_2 l0_3 = some r) :
    Calls Tryd.prog 23 #[.agg #[.int .i64 a0_0, .int .i64 a0_1, .slice A0_2 l0_2.length c0_2, .slice A0_3 l0_3.length c0_3]] w fun e w' => e = .returned (.bool r) ∧ Below w.heap.size w w' := by
  unfold script_headed.f at h
  by_cases h0 : smallL l0_2 = true
  · rw [if_pos h0] at h
    obtain rfl := Option.some.inj h
    exact c_headed a0_0 a0_1 A0_2 c0_2 l0_2 A0_3 l0_3.length c0_3 w hr0_2 hc0_2 (smallL_len h0) (smallL_at h0)
  · rw [if_neg h0] at h; cases h
def script_picked.f (l0 : List Bool) : Option ByteArray := if l0.length ≤ 1048576 then some (pickS l0) else none
theorem script_picked.calls (A0 : Option Addr) (c0 : Nat) (l0 : List Bool) (r : ByteArray) (w : World) (hr0 : Kd.C Kd.bool w A0 l0.length l0) (hc0 : l0.length ≤ c0) (h : script_picked.f l0 = some r) :
    Calls Tryd.prog 56 #[.slice A0 l0.length c0] w fun e w' => e = .returned (.string r) ∧ Below w.heap.size w w' := by
  unfold script_picked.f at h
  by_cases h0 : l0.length ≤ 1048576
  · rw [if_pos h0] at h
    obtain rfl := Option.some.inj h
    exact c_picked A0 c0 l0 w hr0 hc0 h0
  · rw [if_neg h0] at h; cases h
end Go.Proofs.YtpdinahdcedmkaaDoor.ExtQ
/- The words of a line, byte by byte: they join to the line, each is a word alone; and the document's way of cutting a line gives the same ones. -/
set_option linter.unusedVariables false
set_option linter.unusedSimpArgs false
namespace Go.Proofs.YtpdinahdcedmkaaDoor.Ext
/-- The words of a text, byte by byte: the word so far; quoted, escaped, shut. -/
def wl : List UInt8 → List UInt8 → Bool → Bool → Bool → Option (List (List UInt8))
  | [], cur, q, _, _ => if q = true ∨ cur = [] then none else some [cur]
  | b :: t, cur, q, e, sh =>
    if e = true then wl t (cur ++ [b]) q false sh
    else if q = true ∧ b = 92 then wl t (cur ++ [b]) q true sh
    else if b = 34 ∧ cur = [] then wl t (cur ++ [b]) true e sh
    else if b = 34 ∧ q = true then wl t (cur ++ [b]) false e true
    else if q = true then wl t (cur ++ [b]) q e sh
    else if b = 32 ∧ cur ≠ [] then (wl t [] q e false).map (cur :: ·)
    else if b = 32 ∨ b = 34 ∨ sh = true then none
    else wl t (cur ++ [b]) q e sh
def joinW : List (List UInt8) → List UInt8
  | [] => []
  | [w] => w
  | w :: v :: t => w ++ [32] ++ joinW (v :: t)
theorem wl_nil (cur : List UInt8) (q e sh : Bool) : wl [] cur q e sh = if q = true ∨ cur = [] then none else some [cur] := by
  cases e <;> rfl
theorem wl_ne : ∀ (l cur : List UInt8) (q e sh : Bool) (ws : List (List UInt8)), wl l cur q e sh = some ws → ws ≠ []
  | [], cur, q, e, sh, ws, h => by
    rw [wl_nil] at h
    split at h
    · cases h
    · cases h; simp
  | b :: t, cur, q, e, sh, ws, h => by
    unfold wl at h
    repeat' split at h
    all_goals first
      | exact wl_ne _ _ _ _ _ _ h
      | (cases h; done)
      | (rw [Option.map_eq_some_iff] at h; obtain ⟨v, _, rfl⟩ := h; simp)
theorem wl_join : ∀ (l cur : List UInt8) (q e sh : Bool) (ws : List (List UInt8)), wl l cur q e sh = some ws → joinW ws = cur ++ l
  | [], cur, q, e, sh, ws, h => by
    rw [wl_nil] at h
    split at h
    · cases h
    · cases h; simp [joinW]
  | b :: t, cur, q, e, sh, ws, h => by
    unfold wl at h
    repeat' split at h
    all_goals first
      | (rw [wl_join _ _ _ _ _ _ h]; simp; done)
      | (cases h; done)
      | skip
    rename_i h1 h2 h3 h4 h5 h6
    rw [Option.map_eq_some_iff] at h
    obtain ⟨v, hv, rfl⟩ := h
    have h7 := wl_join _ _ _ _ _ _ hv
    have h8 := wl_ne _ _ _ _ _ _ hv
    cases v with
    | nil => exact absurd rfl h8
    | cons x y =>
      simp only [joinW]
      rw [h7, h6.1]
      simp
/-- the state of a word so far -/
def Sound (cur : List UInt8) (q e sh : Bool) : Prop := ∀ t, wl (cur ++ t) [] false false false = wl t cur q e sh
theorem sound_nil : Sound [] false false false := fun _ => rfl
theorem sound_step {b : UInt8} {cur : List UInt8} {q e sh q' e' sh' : Bool} (h : Sound cur q e sh) (hs : ∀ t, wl (b :: t) cur q e sh = wl t (cur ++ [b]) q' e' sh') : Sound (cur ++ [b]) q' e' sh' := by
  intro t
  rw [List.append_assoc, h]
  exact hs t
theorem wl_cons (b : UInt8) (t cur : List UInt8) (q e sh : Bool) : wl (b :: t) cur q e sh =
    if e = true then wl t (cur ++ [b]) q false sh
    else if q = true ∧ b = 92 then wl t (cur ++ [b]) q true sh
    else if b = 34 ∧ cur = [] then wl t (cur ++ [b]) true e sh
    else if b = 34 ∧ q = true then wl t (cur ++ [b]) false e true
    else if q = true then wl t (cur ++ [b]) q e sh
    else if b = 32 ∧ cur ≠ [] then (wl t [] q e false).map (cur :: ·)
    else if b = 32 ∨ b = 34 ∨ sh = true then none
    else wl t (cur ++ [b]) q e sh := by rw [wl]
theorem wl_each : ∀ (l cur : List UInt8) (q e sh : Bool) (ws : List (List UInt8)), Sound cur q e sh → wl l cur q e sh = some ws → ∀ w ∈ ws, wl w [] false false false = some [w]
  | [], cur, q, e, sh, ws, hs, h => by
    have h0 := h
    rw [wl_nil] at h
    split at h
    · cases h
    · cases h
      intro w hw
      obtain rfl : w = cur := by simpa using hw
      have := hs []
      rw [List.append_nil] at this
      rw [this, h0]
  | b :: t, cur, q, e, sh, ws, hs, h => by
    have hs' := fun q' e' sh' => @sound_step b cur q e sh q' e' sh' hs
    simp only [wl_cons b] at h hs'
    split at h
    · rename_i h1
      simp only [if_pos h1] at hs'
      exact wl_each _ _ _ _ _ _ (hs' _ _ _ fun _ => rfl) h
    rename_i h1
    simp only [if_neg h1] at hs'
    split at h
    · rename_i h2
      simp only [if_pos h2] at hs'
      exact wl_each _ _ _ _ _ _ (hs' _ _ _ fun _ => rfl) h
    rename_i h2
    simp only [if_neg h2] at hs'
    split at h
    · rename_i h3
      simp only [if_pos h3] at hs'
      exact wl_each _ _ _ _ _ _ (hs' _ _ _ fun _ => rfl) h
    rename_i h3
    simp only [if_neg h3] at hs'
    split at h
    · rename_i h4
      simp only [if_pos h4] at hs'
      exact wl_each _ _ _ _ _ _ (hs' _ _ _ fun _ => rfl) h
    rename_i h4
    simp only [if_neg h4] at hs'
    split at h
    · rename_i h5
      simp only [if_pos h5] at hs'
      exact wl_each _ _ _ _ _ _ (hs' _ _ _ fun _ => rfl) h
    rename_i h5
    simp only [if_neg h5] at hs'
    split at h
    · rename_i h6
      rw [Option.map_eq_some_iff] at h
      obtain ⟨v, hv, rfl⟩ := h
      obtain rfl : q = false := by simpa using h5
      obtain rfl : e = false := by simpa using h1
      intro w hw
      rcases List.mem_cons.1 hw with rfl | hw
      · have := hs []
        rw [List.append_nil, wl_nil, if_neg (by simp [h6.2])] at this
        exact this
      · exact wl_each _ _ _ _ _ _ sound_nil hv w hw
    rename_i h6
    simp only [if_neg h6] at hs'
    split at h
    · cases h
    · rename_i h7
      simp only [if_neg h7] at hs'
      exact wl_each _ _ _ _ _ _ (hs' _ _ _ fun _ => rfl) h
theorem wl_words {l : List UInt8} {ws : List (List UInt8)} (h : wl l [] false false false = some ws) : joinW ws = l ∧ ws ≠ [] ∧ ∀ w ∈ ws, wl w [] false false false = some [w] ∧ w ≠ [] := by
  refine ⟨by rw [wl_join _ _ _ _ _ _ h]; rfl, wl_ne _ _ _ _ _ _ h, fun w hw => ?_⟩
  have h1 := wl_each _ _ _ _ _ _ sound_nil h w hw
  refine ⟨h1, fun h2 => ?_⟩
  rw [h2, wl_nil] at h1
  simp at h1

theorem drop_consB (s : ByteArray) (pos : Nat) (h : pos < s.size) : s.data.toList.drop pos = s.data.toList.getD pos 0 :: s.data.toList.drop (pos + 1) := by
  have hl : pos < s.data.toList.length := by rw [Array.length_toList]; exact h
  rw [List.drop_eq_getElem_cons hl, List.getD_eq_getElem?_getD, List.getElem?_eq_getElem hl]
  rfl
theorem rune_low (s : ByteArray) (pos : Nat) (h : pos < s.size) (hr : (Utf8.decode s pos).1 < 128) : (Utf8.decode s pos).2 = 1 ∧ (s.data.toList.getD pos 0).toNat = (Utf8.decode s pos).1 := by
  rw [Lib.decode_N] at hr ⊢
  generalize s.data.toList.length - pos = n at *
  generalize (s.data.toList.getD pos 0).toNat = b0 at *
  generalize (s.data.toList.getD (pos + 1) 0).toNat = b1 at *
  generalize (s.data.toList.getD (pos + 2) 0).toNat = b2 at *
  generalize (s.data.toList.getD (pos + 3) 0).toNat = b3 at *
  rcases Lib.decodeN_shape n b0 b1 b2 b3 with ⟨c, e⟩ | ⟨c1, c2, c3, cv, e⟩ | ⟨c1, c2, c3, c4, cv, cs, e⟩ | ⟨c1, c2, c3, c4, c5, cv, cw, e⟩ | e <;> rw [e] at hr ⊢ <;> simp only at hr ⊢ <;> first | exact ⟨trivial, trivial⟩ | omega
theorem rune_high (s : ByteArray) (pos : Nat) (h : pos < s.size) (hr : 128 ≤ (Utf8.decode s pos).1) : ∀ i, i < (Utf8.decode s pos).2 → 128 ≤ (s.data.toList.getD (pos + i) 0).toNat := by
  have hd := Lib.decode_N s pos
  intro i hi
  rw [hd] at hr hi
  generalize s.data.toList.length - pos = n at *
  have key : ∀ b0 b1 b2 b3 : Nat, 128 ≤ (Lib.decodeN n b0 b1 b2 b3).1 → i < (Lib.decodeN n b0 b1 b2 b3).2 → (i = 0 ∧ 128 ≤ b0) ∨ (i = 1 ∧ 128 ≤ b1) ∨ (i = 2 ∧ 128 ≤ b2) ∨ (i = 3 ∧ 128 ≤ b3) := by
    intro b0 b1 b2 b3 hr hi
    by_cases h0 : b0 < 128
    · rw [Lib.decodeN_ascii n b0 b1 b2 b3 h0] at hr
      simp only at hr
      omega
    rcases Lib.decodeN_shape n b0 b1 b2 b3 with ⟨c, e⟩ | ⟨c1, c2, c3, cv, e⟩ | ⟨c1, c2, c3, c4, cv, cs, e⟩ | ⟨c1, c2, c3, c4, c5, cv, cw, e⟩ | e <;> rw [e] at hr hi <;> simp only at hr hi <;> omega
  rcases key _ _ _ _ hr hi with ⟨rfl, h1⟩ | ⟨rfl, h1⟩ | ⟨rfl, h1⟩ | ⟨rfl, h1⟩ <;> exact h1
/-- the bytes of a place up to another one -/
def cut (s : ByteArray) (a b : Nat) : List UInt8 := (s.data.toList.drop a).take (b - a)
theorem cut_self (s : ByteArray) (a : Nat) : cut s a a = [] := by simp [cut]
theorem cut_ne (s : ByteArray) (a b : Nat) (h : a < b) (hb : b ≤ s.size) : cut s a b ≠ [] := by
  have hl : s.data.toList.length = s.size := by rw [Array.length_toList]; rfl
  intro h0
  have := congrArg List.length h0
  simp only [cut, List.length_take, List.length_drop, List.length_nil] at this
  omega
theorem cut_snoc (s : ByteArray) (a b : Nat) (h : a ≤ b) (hb : b < s.size) : cut s a (b + 1) = cut s a b ++ [s.data.toList.getD b 0] := by
  have hl : s.data.toList.length = s.size := by rw [Array.length_toList]; rfl
  unfold cut
  rw [show b + 1 - a = (b - a) + 1 by omega, List.take_add_one, List.getElem?_drop, show a + (b - a) = b by omega, List.getD_eq_getElem?_getD, List.getElem?_eq_getElem (by omega)]
  rfl
theorem cut_data (s : ByteArray) (a b : Nat) : (s.extract a b).data.toList = cut s a b := by
  simp [cut, ByteArray.data_extract, Array.toList_extract, List.extract_eq_take_drop]
/-- bytes that are neither a blank, nor a quote, nor a backslash -/
theorem wl_other (s : ByteArray) (fr : Nat) (q sh : Bool) (hsh : sh = true → q = true) : ∀ (k pos : Nat), fr ≤ pos → pos + k ≤ s.size → (∀ i, i < k → 128 ≤ (s.data.toList.getD (pos + i) 0).toNat) →
    wl (s.data.toList.drop pos) (cut s fr pos) q false sh = wl (s.data.toList.drop (pos + k)) (cut s fr (pos + k)) q false sh
  | 0, pos, _, _, _ => rfl
  | k + 1, pos, hf, hp, hh => by
    have h0 := hh 0 (by omega)
    rw [Nat.add_zero] at h0
    have n92 : s.data.toList.getD pos 0 ≠ 92 := fun h => by rw [h] at h0; revert h0; decide
    have n34 : s.data.toList.getD pos 0 ≠ 34 := fun h => by rw [h] at h0; revert h0; decide
    have n32 : s.data.toList.getD pos 0 ≠ 32 := fun h => by rw [h] at h0; revert h0; decide
    rw [drop_consB s pos (by omega), wl_cons, if_neg (by simp), if_neg (fun x => n92 x.2), if_neg (fun x => n34 x.1), if_neg (fun x => n34 x.1), ← cut_snoc s fr pos hf (by omega)]
    have ih := wl_other s fr q sh hsh k (pos + 1) (by omega) (by omega) (fun i hi => by have := hh (i + 1) (by omega); rwa [show pos + (i + 1) = pos + 1 + i by omega] at this)
    rw [show pos + 1 + k = pos + (k + 1) by omega] at ih
    by_cases hq : q = true
    · rw [if_pos hq]; exact ih
    · rw [if_neg hq, if_neg (fun x => n32 x.1), if_neg (fun x => x.elim n32 (fun y => y.elim n34 (fun z => hq (hsh z))))]
      exact ih

/-- what a rune does -/
theorem wl_esc (s : ByteArray) (fr pos : Nat) (sh : Bool) (hf : fr ≤ pos) (h : pos < s.size) (hw : pos + (Utf8.decode s pos).2 ≤ s.size) (hw1 : 1 ≤ (Utf8.decode s pos).2) :
    wl (s.data.toList.drop pos) (cut s fr pos) true true sh = wl (s.data.toList.drop (pos + (Utf8.decode s pos).2)) (cut s fr (pos + (Utf8.decode s pos).2)) true false sh := by
  rw [drop_consB s pos h, wl_cons, if_pos rfl, ← cut_snoc s fr pos hf h]
  rcases Nat.lt_or_ge (Utf8.decode s pos).1 128 with hr | hr
  · rw [(rune_low s pos h hr).1]
  · have hh := rune_high s pos h hr
    generalize (Utf8.decode s pos).2 = k at *
    rw [wl_other s fr true sh (fun _ => rfl) (k - 1) (pos + 1) (by omega) (by omega) (fun i hi => by have := hh (i + 1) (by omega); rwa [show pos + (i + 1) = pos + 1 + i by omega] at this)]
    rw [show pos + 1 + (k - 1) = pos + k by omega]
theorem wl_rune (s : ByteArray) (fr pos : Nat) (q sh : Bool) (hsh : sh = true → q = true) (hf : fr ≤ pos) (h : pos < s.size) (hw : pos + (Utf8.decode s pos).2 ≤ s.size) (hr : (Utf8.decode s pos).1 ≠ 34) (hr2 : (Utf8.decode s pos).1 ≠ 32 ∨ q = true) (hr3 : (Utf8.decode s pos).1 ≠ 92 ∨ q = false) :
    wl (s.data.toList.drop pos) (cut s fr pos) q false sh = wl (s.data.toList.drop (pos + (Utf8.decode s pos).2)) (cut s fr (pos + (Utf8.decode s pos).2)) q false sh := by
  rcases Nat.lt_or_ge (Utf8.decode s pos).1 128 with hl | hl
  · obtain ⟨e1, e2⟩ := rune_low s pos h hl
    rw [e1]
    rw [← e2] at hr hr2 hr3
    have n34 : s.data.toList.getD pos 0 ≠ 34 := fun h => hr (by rw [h]; rfl)
    have n32 : s.data.toList.getD pos 0 ≠ 32 ∨ q = true := hr2.imp (fun x h => x (by rw [h]; rfl)) id
    have n92 : s.data.toList.getD pos 0 ≠ 92 ∨ q = false := hr3.imp (fun x h => x (by rw [h]; rfl)) id
    rw [drop_consB s pos h, wl_cons, if_neg (by simp), if_neg (fun x => n92.elim (fun y => y x.2) (fun y => by rw [y] at x; exact absurd x.1 (by simp))), if_neg (fun x => n34 x.1), if_neg (fun x => n34 x.1), ← cut_snoc s fr pos hf h]
    by_cases hq : q = true
    · rw [if_pos hq]
    · have n32' : s.data.toList.getD pos 0 ≠ 32 := n32.resolve_right hq
      rw [if_neg hq, if_neg (fun x => n32' x.1), if_neg (fun x => x.elim n32' (fun y => y.elim n34 (fun z => hq (hsh z))))]
  · exact wl_other s fr q sh hsh _ pos hf hw (rune_high s pos h hl)
theorem wl_bs (s : ByteArray) (fr pos : Nat) (sh : Bool) (hf : fr ≤ pos) (h : pos < s.size) (hr : (Utf8.decode s pos).1 = 92) :
    wl (s.data.toList.drop pos) (cut s fr pos) true false sh = wl (s.data.toList.drop (pos + 1)) (cut s fr (pos + 1)) true true sh ∧ (Utf8.decode s pos).2 = 1 := by
  obtain ⟨e1, e2⟩ := rune_low s pos h (by omega)
  rw [hr] at e2
  have e3 : s.data.toList.getD pos 0 = 92 := UInt8.toNat_inj.1 (by rw [e2]; rfl)
  exact ⟨by rw [drop_consB s pos h, wl_cons, if_neg (by simp), if_pos (by simp only [e3, and_self]), ← cut_snoc s fr pos hf h], e1⟩
/-- a quote -/
theorem wl_q (s : ByteArray) (fr pos : Nat) (q sh : Bool) (hf : fr ≤ pos) (h : pos < s.size) (hr : (Utf8.decode s pos).1 = 34) :
    wl (s.data.toList.drop pos) (cut s fr pos) q false sh = (if fr = pos then wl (s.data.toList.drop (pos + 1)) (cut s fr (pos + 1)) true false sh else if q = true then wl (s.data.toList.drop (pos + 1)) (cut s fr (pos + 1)) false false true else none) ∧ (Utf8.decode s pos).2 = 1 := by
  obtain ⟨e1, e2⟩ := rune_low s pos h (by omega)
  rw [hr] at e2
  have e3 : s.data.toList.getD pos 0 = 34 := UInt8.toNat_inj.1 (by rw [e2]; rfl)
  refine ⟨?_, e1⟩
  rw [drop_consB s pos h, wl_cons, if_neg (by simp), if_neg (by rw [e3]; simp), ← cut_snoc s fr pos hf h, e3]
  by_cases hp : fr = pos
  · rw [if_pos hp, if_pos ⟨rfl, by rw [hp]; exact cut_self s pos⟩]
  · have := cut_ne s fr pos (by omega) (by omega)
    rw [if_neg hp, if_neg (fun x => this x.2)]
    by_cases hq : q = true
    · rw [if_pos ⟨rfl, hq⟩, if_pos hq]
    · rw [if_neg (fun x => hq x.2), if_neg hq, if_neg hq, if_neg (by simp), if_pos (by simp)]
/-- a blank outside of quotes -/
theorem wl_b (s : ByteArray) (fr pos : Nat) (sh : Bool) (hf : fr ≤ pos) (h : pos < s.size) (hr : (Utf8.decode s pos).1 = 32) :
    wl (s.data.toList.drop pos) (cut s fr pos) false false sh = (if fr = pos then none else (wl (s.data.toList.drop (pos + 1)) (cut s (pos + 1) (pos + 1)) false false false).map (cut s fr pos :: ·)) ∧ (Utf8.decode s pos).2 = 1 := by
  obtain ⟨e1, e2⟩ := rune_low s pos h (by omega)
  rw [hr] at e2
  have e3 : s.data.toList.getD pos 0 = 32 := UInt8.toNat_inj.1 (by rw [e2]; rfl)
  refine ⟨?_, e1⟩
  rw [drop_consB s pos h, wl_cons, if_neg (by simp), if_neg (by simp), if_neg (by rw [e3]; simp), if_neg (by simp), if_neg (by simp), e3]
  by_cases hp : fr = pos
  · rw [if_pos hp, if_neg (fun x => x.2 (by rw [hp]; exact cut_self s pos)), if_pos (by simp)]
  · have := cut_ne s fr pos (by omega) (by omega)
    rw [if_neg hp, if_pos ⟨rfl, this⟩, cut_self]
/-- any rune but a blank behind a closing quote -/
theorem wl_sh (s : ByteArray) (fr pos : Nat) (hf : fr < pos) (h : pos < s.size) (hr : (Utf8.decode s pos).1 ≠ 32) :
    wl (s.data.toList.drop pos) (cut s fr pos) false false true = none := by
  have n32 : s.data.toList.getD pos 0 ≠ 32 := by
    intro e
    rcases Nat.lt_or_ge (Utf8.decode s pos).1 128 with hl | hl
    · have := (rune_low s pos h hl).2
      rw [e] at this
      exact hr this.symm
    · have hw := Lib.decode_width_pos s pos h
      have := rune_high s pos h hl 0 hw
      rw [Nat.add_zero, e] at this
      revert this
      decide
  have := cut_ne s fr pos hf (by omega)
  rw [drop_consB s pos h, wl_cons, if_neg (by simp), if_neg (by simp), if_neg (fun x => this x.2), if_neg (by simp), if_neg (by simp), if_neg (fun x => n32 x.1), if_pos (.inr (.inr rfl))]
theorem wl_end (s : ByteArray) (fr pos : Nat) (q e sh : Bool) (hf : fr ≤ pos) (h : pos = s.size) : wl (s.data.toList.drop pos) (cut s fr pos) q e sh = if q = true ∨ fr = pos then none else some [cut s fr s.size] := by
  subst h
  rw [List.drop_of_length_le (by rw [Array.length_toList]; exact Nat.le_refl _), wl_nil]
  by_cases hp : fr = s.size
  · subst hp; simp [cut_self]
  · have := cut_ne s fr s.size (by omega) (by omega)
    simp [this, hp]
end Go.Proofs.YtpdinahdcedmkaaDoor.Ext
