/- Law ScriptWords: the program's words of a line are the document's, for any line. -/
import Derived.Test.YtpdinahdcedmkaaDoorP3
namespace Go.Proofs.YtpdinahdcedmkaaDoor.Ext
open Go.Proofs.YtpdinahdcedmkaaDoor.P
set_option linter.unusedVariables false
set_option linter.unusedSimpArgs false
open Go.RowKit Go.Proofs.YtpdinahdcedmkaaDoorW.PrintWords Go.Proofs.YtpdinahdcedmkaaDoorW.PrintLast Go.Proofs.YtpdinahdcedmkaaDoorW.PrintMore

theorem wr64 {x : Int} (h0 : 0 ≤ x) (h1 : x ≤ 100000) : wrap64 x = x := by unfold wrap64; omega
theorem bt_nat (s : ByteArray) (i : Nat) (h : i < s.size) : bt s (i : Int) = ((s.data.toList.getD i 0).toNat : Int) := by
  have e : s[i]'h = s.data.toList.getD i 0 := by
    rw [List.getD_eq_getElem?_getD, List.getElem?_eq_getElem (by rw [Array.length_toList]; exact h)]; rfl
  rw [← e]
  unfold bt
  rw [dif_pos (by rw [Int.toNat_natCast]; exact h)]
  rfl
theorem byte_eq (b : UInt8) (n : Nat) (hn : n < 256) : ((b.toNat : Int) = (n : Int)) ↔ b = UInt8.ofNat n := by
  constructor
  · intro h
    apply UInt8.toNat_inj.1
    rw [UInt8.toNat_ofNat']
    omega
  · intro h
    rw [h, UInt8.toNat_ofNat']
    omega
theorem drop_ge (s : ByteArray) (i : Nat) (h : s.size ≤ i) : s.data.toList.drop i = [] := List.drop_of_length_le (by rw [Array.length_toList]; exact h)
/-- the document's look for a closing quote -/
theorem closed_eq (s : ByteArray) (hs : s.size ≤ 5000) : ∀ (d i k : Nat), i ≤ s.size + 1 → s.size + 1 - i ≤ d → d < k →
    liveryref27_closed.l0 k s (i : Int) = some (match closedL (s.data.toList.drop i) with | none => -1 | some x => ((i + x.1.length : Nat) : Int))
  | d, i, 0, _, _, h => by omega
  | d, i, k + 1, hi, hd, hk => by
    by_cases h : i < s.size
    · have e1 := drop_consB s i h
      simp only [liveryref27_closed.l0]
      rw [if_pos (by omega), if_pos (by omega), bt_nat s i h, e1]
      generalize hb : s.data.toList.getD i 0 = b at *
      by_cases h92 : b = 92
      · rw [if_pos (by rw [h92]; rfl), wr64 (x := (i : Int) + 1) (by omega) (by omega), wr64 (by omega) (by omega)]
        have ih := closed_eq s hs (d - 1) (i + 2) k (by omega) (by omega) (by omega)
        rw [show ((i : Int) + 1 + 1) = ((i + 2 : Nat) : Int) by omega, ih]
        by_cases h2 : i + 1 < s.size
        · have e2 := drop_consB s (i + 1) h2
          have e3 : ∀ (c : UInt8) t, closedL (b :: c :: t) = (closedL t).map fun x => (b :: c :: x.1, x.2) := fun c t => by
            conv => lhs; unfold closedL
            rw [if_pos h92]
          rw [e2, e3]
          cases closedL (List.drop (i + 1 + 1) s.data.toList) with
          | none => rfl
          | some x => simp only [Option.map_some, List.length_cons]; congr 2; omega
        · have e3 : closedL [b] = none := by unfold closedL; rw [if_pos h92]
          have e4 : closedL [] = none := rfl
          rw [drop_ge s (i + 1) (by omega), drop_ge s (i + 2) (by omega), e3, e4]
      · have n92 : ¬ ((b.toNat : Int) = 92) := fun h => h92 ((byte_eq b 92 (by omega)).1 h)
        rw [if_neg n92]
        by_cases h34 : b = 34
        · rw [if_pos (by rw [h34]; rfl), wr64 (by omega) (by omega)]
          have e3 : closedL (b :: s.data.toList.drop (i + 1)) = some ([b], s.data.toList.drop (i + 1)) := by
            cases s.data.toList.drop (i + 1) with
            | nil => unfold closedL; rw [if_neg h92, if_pos h34]
            | cons c t => unfold closedL; rw [if_neg h92, if_pos h34]
          rw [e3]
          simp
        · have n34 : ¬ ((b.toNat : Int) = 34) := fun h => h34 ((byte_eq b 34 (by omega)).1 h)
          rw [if_neg n34, wr64 (by omega) (by omega)]
          have ih := closed_eq s hs (d - 1) (i + 1) k (by omega) (by omega) (by omega)
          rw [show ((i : Int) + 1) = ((i + 1 : Nat) : Int) by omega, ih]
          have e3 : closedL (b :: s.data.toList.drop (i + 1)) = (closedL (s.data.toList.drop (i + 1))).map fun x => (b :: x.1, x.2) := by
            cases s.data.toList.drop (i + 1) with
            | nil => conv => lhs; unfold closedL
                     rw [if_neg h92, if_neg h34]; rfl
            | cons c t => conv => lhs; unfold closedL
                          rw [if_neg h92, if_neg h34]
          rw [e3]
          cases closedL (List.drop (i + 1) s.data.toList) with
          | none => rfl
          | some x => simp only [Option.map_some, List.length_cons]; congr 2; omega
    · simp only [liveryref27_closed.l0]
      rw [if_neg (by omega), drop_ge s i (by omega)]
      rfl
/-- a word's bytes, and what is behind them -/
def resW (L : List ByteArray) (o : Option (List (List UInt8))) : List ByteArray × Int := match o with | some ws => (L ++ ws.map strB, 0) | none => ([], 270)
theorem take_strB (s : ByteArray) (a b : Nat) : s.extract (a : Int).toNat (b : Int).toNat = strB (cut s a b) := by rw [Int.toNat_natCast, Int.toNat_natCast, strB_cut]
theorem j3_eq (s : ByteArray) (hs : s.size ≤ 5000) (at_ e k K : Nat) (L : List ByteArray) (hae : at_ ≤ e) (he : e ≤ s.size) (hL : L.length ≤ at_) (hK : K + 3 ≤ k)
    (H : ∀ (a' k' : Nat) (L' : List ByteArray), e < a' → a' ≤ s.size → L'.length ≤ a' → K ≤ k' → liveryref27_Words.l0 k' s L' (a' : Int) = some (resW L' (wl (s.data.toList.drop a') [] false false false))) :
    liveryref27_Words.j3 k s L (at_ : Int) (e : Int) = some (resW L (if cut s at_ e = [] then none else restW (cut s at_ e) (s.data.toList.drop e))) := by
  obtain ⟨k, rfl⟩ : ∃ m, k = m + 2 := ⟨k - 2, by omega⟩
  simp only [liveryref27_Words.j3]
  by_cases h0 : at_ = e
  · subst h0
    rw [if_pos rfl, cut_self, if_pos rfl]
    simp only [liveryref27_Words.j4]
    rw [if_pos trivial]
    rfl
  · have hne := cut_ne s at_ e (by omega) he
    rw [if_neg (by omega), if_neg hne]
    have J : ∀ (hx : e = s.size ∨ (e < s.size ∧ s.data.toList.getD e 0 = 32)), liveryref27_Words.j4 (k + 1) s L (at_ : Int) (e : Int) false = some (resW L (restW (cut s at_ e) (s.data.toList.drop e))) := by
      intro hx
      simp only [liveryref27_Words.j4]
      rw [if_neg (by simp), if_pos (by omega), if_pos (by omega), if_pos (by omega), if_pos (by omega), take_strB]
      simp only [Option.bind_some]
      rcases hx with hx | ⟨hx, hb⟩
      · subst hx
        rw [if_pos rfl, drop_ge s s.size (Nat.le_refl _)]
        rfl
      · rw [if_neg (by omega), wr64 (by omega) (by omega), show ((e : Int) + 1) = ((e + 1 : Nat) : Int) by omega, H (e + 1) k _ (by omega) (by omega) (by simp; omega) (by omega), drop_consB s e hx, hb]
        simp only [restW, if_true]
        cases wl (List.drop (e + 1) s.data.toList) [] false false false with
        | none => rfl
        | some ws => simp [resW]
    by_cases h1 : e < s.size
    · rw [if_pos (by omega), if_pos (by omega), bt_nat s e h1]
      by_cases h32 : s.data.toList.getD e 0 = 32
      · rw [show ((((s.data.toList.getD e 0).toNat : Nat) : Int) != 32) = false by rw [h32]; rfl]
        exact J (.inr ⟨h1, h32⟩)
      · have : ((((s.data.toList.getD e 0).toNat : Nat) : Int) != 32) = true := bne_iff_ne.2 (fun h => h32 ((byte_eq _ 32 (by omega)).1 h))
        rw [this]
        simp only [liveryref27_Words.j4]
        rw [if_pos trivial, drop_consB s e h1]
        simp only [restW]
        rw [if_neg h32]
        rfl
    · rw [if_neg (by omega)]
      exact J (.inl (by omega))
theorem cut_takeWhile (s : ByteArray) (a : Nat) : cut s a (a + ((s.data.toList.drop a).takeWhile plainB).length) = (s.data.toList.drop a).takeWhile plainB ∧ s.data.toList.drop (a + ((s.data.toList.drop a).takeWhile plainB).length) = (s.data.toList.drop a).dropWhile plainB := by
  have h := List.takeWhile_append_dropWhile (p := plainB) (l := s.data.toList.drop a)
  constructor
  · unfold cut
    rw [Nat.add_sub_cancel_left]
    conv => lhs; rw [← h]
    rw [List.take_left']
    rw [h]
  · rw [← List.drop_drop]
    conv => lhs; rw [← h]
    rw [List.drop_left']
    rw [h]
theorem l1_eq (s : ByteArray) (hs : s.size ≤ 5000) (L : List ByteArray) (at_ : Nat) : ∀ (d i k : Nat), i ≤ s.size → s.size - i ≤ d → d < k →
    ∃ k', k ≤ k' + ((s.data.toList.drop i).takeWhile plainB).length + 1 ∧ liveryref27_Words.l1 k s L (at_ : Int) (i : Int) = liveryref27_Words.j3 k' s L (at_ : Int) ((i + ((s.data.toList.drop i).takeWhile plainB).length : Nat) : Int)
  | d, i, 0, _, _, h => by omega
  | d, i, k + 1, hi, hd, hk => by
    by_cases h : i < s.size
    · rw [drop_consB s i h]
      simp only [liveryref27_Words.l1]
      rw [if_pos (by omega), if_pos (by omega), bt_nat s i h]
      generalize hb : s.data.toList.getD i 0 = b at *
      by_cases h32 : b = 32
      · rw [if_pos (by rw [h32]; rfl)]
        refine ⟨k, by omega, ?_⟩
        subst h32
        simp [List.takeWhile_cons, plainB]
      · rw [if_neg (fun h : (b.toNat : Int) = 32 => h32 ((byte_eq b 32 (by omega)).1 h))]
        by_cases h34 : b = 34
        · rw [if_pos (by rw [h34]; rfl)]
          refine ⟨k, by omega, ?_⟩
          subst h34
          simp [List.takeWhile_cons, plainB]
        · rw [if_neg (fun h : (b.toNat : Int) = 34 => h34 ((byte_eq b 34 (by omega)).1 h)), wr64 (by omega) (by omega)]
          obtain ⟨k', hk', e⟩ := l1_eq s hs L at_ (d - 1) (i + 1) k (by omega) (by omega) (by omega)
          have e5 : ((b :: s.data.toList.drop (i + 1)).takeWhile plainB).length = ((s.data.toList.drop (i + 1)).takeWhile plainB).length + 1 := by
            simp [List.takeWhile_cons, plainB, h32, h34]
          refine ⟨k', by omega, ?_⟩
          rw [show ((i : Int) + 1) = ((i + 1 : Nat) : Int) by omega, e, e5]
          congr 1
          omega
    · simp only [liveryref27_Words.l1]
      rw [if_neg (by omega)]
      refine ⟨k, by omega, ?_⟩
      rw [drop_ge s i (by omega)]
      simp
theorem ref_l0 (s : ByteArray) (hs : s.size ≤ 5000) : ∀ (d at_ k : Nat) (L : List ByteArray), at_ ≤ s.size → s.size - at_ ≤ d → L.length ≤ at_ → s.size + 20 + 7 * d ≤ k → 
    liveryref27_Words.l0 k s L (at_ : Int) = some (resW L (wl (s.data.toList.drop at_) [] false false false))
  | d, at_, k, L, ha, hd, hL, hk => by
    have H : ∀ e, at_ ≤ e → ∀ (a' k' : Nat) (L' : List ByteArray), e < a' → a' ≤ s.size → L'.length ≤ a' → s.size + 13 + 7 * d - 7 * (e - at_) ≤ k' → liveryref27_Words.l0 k' s L' (a' : Int) = some (resW L' (wl (s.data.toList.drop a') [] false false false)) := by
      intro e hae a' k' L' h1 h2 h3 h4
      exact ref_l0 s hs (d - (e - at_) - 1) a' k' L' h2 (by omega) h3 (by omega)
    obtain ⟨k, rfl⟩ : ∃ m, k = m + 3 := ⟨k - 3, by omega⟩
    rw [wl_first]
    by_cases h : at_ < s.size
    · have e1 := drop_consB s at_ h
      simp only [liveryref27_Words.l0]
      rw [if_pos (by omega), if_pos (by omega), bt_nat s at_ h]
      by_cases h34 : s.data.toList.getD at_ 0 = 34
      · rw [h34] at e1 ⊢
        simp only [liveryref27_Words.j1]
        rw [if_pos (show ((((34 : UInt8).toNat : Nat) : Int) == 34) = true from rfl)]
        unfold liveryref27_closed.f
        rw [wr64 (by omega) (by omega), show ((at_ : Int) + 1) = ((at_ + 1 : Nat) : Int) by omega, closed_eq s hs (s.size + 1) (at_ + 1) (k + 1) (by omega) (by omega) (by omega), e1]
        simp only [Option.bind_some, firstW, if_true]
        cases hc : closedL (s.data.toList.drop (at_ + 1)) with
        | none =>
          simp only [Option.map_none, Option.bind_none]
          rw [if_pos (by omega)]
          rfl
        | some x =>
          obtain ⟨h1, h2⟩ := closedL_len _ _ hc
          have hl := congrArg List.length h1
          rw [List.length_append, List.length_drop, Array.length_toList, show s.data.size = s.size from rfl] at hl
          have c1 : cut s at_ (at_ + 1 + x.1.length) = 34 :: x.1 := by
            unfold cut
            rw [e1, ← h1, show at_ + 1 + x.1.length - at_ = x.1.length + 1 by omega, List.take_succ_cons, List.take_left']
            rfl
          have c2 : s.data.toList.drop (at_ + 1 + x.1.length) = x.2 := by
            rw [← List.drop_drop, ← h1, List.drop_left']
            rfl
          simp only [Option.map_some, Option.bind_some]
          rw [if_neg (by omega), j3_eq s hs at_ (at_ + 1 + x.1.length) (k + 1) _ L (by omega) (by omega) hL (by omega) (H _ (by omega)), c1, c2]
      · have : ((((s.data.toList.getD at_ 0).toNat : Nat) : Int) == 34) = false := by
          rw [beq_eq_false_iff_ne]
          exact fun h => h34 ((byte_eq _ 34 (by omega)).1 h)
        rw [this]
        simp only [liveryref27_Words.j1]
        rw [if_neg (by simp)]
        obtain ⟨k', hk', e⟩ := l1_eq s hs L at_ (s.size - at_) at_ (k + 1) (by omega) (by omega) (by omega)
        have hle : ((s.data.toList.drop at_).takeWhile plainB).length ≤ s.size - at_ := by
          refine Nat.le_trans (List.takeWhile_prefix _).length_le ?_
          rw [List.length_drop, Array.length_toList]
          exact Nat.le_refl _
        rw [e, j3_eq s hs at_ _ k' _ L (by omega) (by omega) hL (by omega) (H _ (by omega)), (cut_takeWhile s at_).1, (cut_takeWhile s at_).2, e1]
        simp only [firstW]
        rw [if_neg h34]
        rfl
    · simp only [liveryref27_Words.l0]
      rw [if_neg (by omega)]
      simp only [liveryref27_Words.j1]
      rw [if_neg (by simp)]
      simp only [liveryref27_Words.l1]
      rw [if_neg (by omega)]
      obtain ⟨k, rfl⟩ : ∃ m, k = m + 1 := ⟨k - 1, by omega⟩
      simp only [liveryref27_Words.j3]
      rw [if_pos trivial]
      cases k with
      | zero => omega
      | succ k =>
        simp only [liveryref27_Words.j4]
        rw [drop_ge s at_ (by omega)]
        rfl
theorem same_self (l : List ByteArray) (hl : l.length ≤ 6000) : ∀ (d i k : Nat), l.length - i ≤ d → i ≤ l.length → d < k → liverylaw27_same.l0 k l l (l.length : Int) (i : Int) = some true
  | d, i, 0, _, _, h => by omega
  | d, i, k + 1, hd, hi, hk => by
    simp only [liverylaw27_same.l0]
    by_cases h : i < l.length
    · rw [if_pos (by omega), if_pos (by omega), if_pos (by omega), if_pos (by omega)]
      rw [if_pos trivial, wr64 (by omega) (by omega), show ((i : Int) + 1) = ((i + 1 : Nat) : Int) by omega]
      exact same_self l hl (d - 1) (i + 1) k (by omega) (by omega) (by omega)
    · rw [if_neg (by omega)]
theorem wl_count : ∀ (l cur : List UInt8) (q e sh : Bool) (ws : List (List UInt8)), wl l cur q e sh = some ws → List.length ws ≤ l.length + 1
  | [], cur, q, e, sh, ws, h => by
    rw [wl_nil] at h
    split at h
    · cases h
    · cases h; simp
  | b :: t, cur, q, e, sh, ws, h => by
    unfold wl at h
    repeat' split at h
    all_goals first
      | (have := wl_count _ _ _ _ _ _ h; simp only [List.length_cons]; omega)
      | (cases h; done)
      | (rw [Option.map_eq_some_iff] at h; obtain ⟨v, hv, rfl⟩ := h; have := wl_count _ _ _ _ _ _ hv; simp only [List.length_cons]; omega)
theorem words_true (a0 : ByteArray) : liverylaw27_ScriptWords.f 60002 a0 = some true := by
  unfold liverylaw27_ScriptWords.f
  simp only [liverylaw27_live.f, Option.bind_some, if_true]
  simp only [liverylaw27_ScriptWords.j0]
  by_cases hz : (a0.size : Int) > 5000
  · rw [decide_eq_true hz, if_pos rfl]; rfl
  rw [decide_eq_false hz, if_neg (by simp)]
  have hs : a0.size ≤ 5000 := by omega
  have hr := ref_l0 a0 hs a0.size 0 60001 [] (by omega) (by omega) (by simp) (by omega)
  unfold script_Words.f
  rw [if_pos (by omega)]
  unfold liveryref27_Words.f
  rw [show (0 : Int) = ((0 : Nat) : Int) from rfl, hr, List.drop_zero]
  simp only [Option.bind_some, wordsS]
  cases hw : wl a0.data.toList [] false false false with
  | none => rfl
  | some ws =>
    have hc : List.length ws ≤ a0.size + 1 := wl_count _ _ _ _ _ _ hw
    simp only [Option.map_some, resW, List.nil_append, liverylaw27_same.f]
    rw [if_pos trivial]
    have := same_self (ws.map strB) (by simp; omega) 6001 0 60001 (by simp; omega) (by omega) (by omega)
    rw [show ((0 : Nat) : Int) = 0 from rfl] at this
    rw [this]
    rfl
theorem law_Words (a0 : ByteArray) (w : World) (hT : Lib.Utf8Tabs 0 1 w) :
    Calls Tryd.prog 4 #[.string a0] w fun e w' => e = .returned (.bool true) ∧ Below w.heap.size w w' :=
  liverylaw27_ScriptWords.calls 60002 a0 true w (words_true a0) ⟨hT⟩
end Go.Proofs.YtpdinahdcedmkaaDoor.Ext
