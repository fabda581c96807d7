import Derived.Test.YtpdinahdcedmkaaGreatDoorK22
import Derived.Test.YtpdinahdcedmkaaGreatDoorK6
import Derived.Test.YtpdinahdcedmkaaGreatDoorK12
import Derived.Test.YtpdinahdcedmkaaGreatDoorK19
import Derived.Test.YtpdinahdcedmkaaGreatDoorK4
set_option linter.unusedVariables false
set_option linter.unusedSimpArgs false
set_option maxHeartbeats 16000000
set_option maxRecDepth 100000
/- liveryref27.Words: the document's words of a line are script's. -/
namespace Go.Proofs.YtpdinahdcedmkaaGreatDoor.Ext
open Go.Proofs.YtpdinahdcedmkaaGreatDoor.V
open Go.Proofs.YtpdinahdcedmkaaGreatDoor.ExtQ (strB strB_cut wordsS)
open Go.RowKit YtpdinahdcedmkaaGreatDoorW.PrintWords YtpdinahdcedmkaaGreatDoorW.PrintLast YtpdinahdcedmkaaGreatDoorW.PrintMore
theorem wr64 {x : Int} (h0 : 0 <= x) (h1 : x <= 100000) : wrap64 x = x := by unfold wrap64; omega
theorem bt_nat (s : ByteArray) (i : Nat) (h : i < s.size) : bt s (i : Int) = ((s.data.toList.getD i 0).toNat : Int) := by
 have e : s[i]'h = s.data.toList.getD i 0 := by
  rw [List.getD_eq_getElem?_getD, List.getElem?_eq_getElem (by rw [Array.length_toList]; exact h)]; rfl
 rw [<- e]
 unfold bt
 rw [dif_pos (by rw [Int.toNat_natCast]; exact h)]
 rfl
theorem byte_eq (b : UInt8) (n : Nat) (hn : n < 256) : ((b.toNat : Int) = (n : Int)) ↔ b = UInt8.ofNat n := by
 constructor
 · intro h
   apply UInt8.toNat_inj.1
   rw [UInt8.toNat_ofNat']
   omega
 · intro h
   rw [h, UInt8.toNat_ofNat']
   omega
theorem drop_ge (s : ByteArray) (i : Nat) (h : s.size <= i) : s.data.toList.drop i = [] := List.drop_of_length_le (by rw [Array.length_toList]; exact h)
theorem closed_eq (s : ByteArray) (hs : s.size <= 40000) : ∀ (d i k : Nat), i <= s.size + 1 -> s.size + 1 - i <= d -> d < k ->
 liveryref27_closed.l0 k s (i : Int) = some (match closedL (s.data.toList.drop i) with | none => -1 | some x => ((i + x.1.length : Nat) : Int))
 | d, i, 0, _, _, h => by omega
 | d, i, k + 1, hi, hd, hk => by
   by_cases h : i < s.size
   · have e1 := drop_consB s i h
     simp only [liveryref27_closed.l0]
     rw [if_pos (by omega), if_pos (by omega), bt_nat s i h, e1]
     generalize hb : s.data.toList.getD i 0 = b at *
     by_cases h92 : b = 92
     · rw [if_pos (by rw [h92]; rfl), wr64 (x := (i : Int) + 1) (by omega) (by omega), wr64 (by omega) (by omega)]
       have ih := closed_eq s hs (d - 1) (i + 2) k (by omega) (by omega) (by omega)
       rw [show ((i : Int) + 1 + 1) = ((i + 2 : Nat) : Int) by omega, ih]
       by_cases h2 : i + 1 < s.size
       · have e2 := drop_consB s (i + 1) h2
         have e3 : ∀ (c : UInt8) t, closedL (b :: c :: t) = (closedL t).map fun x => (b :: c :: x.1, x.2) := fun c t => by
          conv => lhs; unfold closedL
          rw [if_pos h92]
         rw [e2, e3]
         cases closedL (List.drop (i + 1 + 1) s.data.toList) with
         | none => rfl
         | some x => simp only [Option.map_some, List.length_cons]; congr 2; omega
       · have e3 : closedL [b] = none := by unfold closedL; rw [if_pos h92]
         have e4 : closedL [] = none := rfl
         rw [drop_ge s (i + 1) (by omega), drop_ge s (i + 2) (by omega), e3, e4]
     · have n92 : ¬ ((b.toNat : Int) = 92) := fun h => h92 ((byte_eq b 92 (by omega)).1 h)
       rw [if_neg n92]
       by_cases h34 : b = 34
       · rw [if_pos (by rw [h34]; rfl), wr64 (by omega) (by omega)]
         have e3 : closedL (b :: s.data.toList.drop (i + 1)) = some ([b], s.data.toList.drop (i + 1)) := by
          cases s.data.toList.drop (i + 1) with
          | nil => unfold closedL; rw [if_neg h92, if_pos h34]
          | cons c t => unfold closedL; rw [if_neg h92, if_pos h34]
         rw [e3]
         simp
       · have n34 : ¬ ((b.toNat : Int) = 34) := fun h => h34 ((byte_eq b 34 (by omega)).1 h)
         rw [if_neg n34, wr64 (by omega) (by omega)]
         have ih := closed_eq s hs (d - 1) (i + 1) k (by omega) (by omega) (by omega)
         rw [show ((i : Int) + 1) = ((i + 1 : Nat) : Int) by omega, ih]
         have e3 : closedL (b :: s.data.toList.drop (i + 1)) = (closedL (s.data.toList.drop (i + 1))).map fun x => (b :: x.1, x.2) := by
          cases s.data.toList.drop (i + 1) with
          | nil => conv => lhs; unfold closedL
                   rw [if_neg h92, if_neg h34]; rfl
          | cons c t => conv => lhs; unfold closedL
                        rw [if_neg h92, if_neg h34]
         rw [e3]
         cases closedL (List.drop (i + 1) s.data.toList) with
         | none => rfl
         | some x => simp only [Option.map_some, List.length_cons]; congr 2; omega
   · simp only [liveryref27_closed.l0]
     rw [if_neg (by omega), drop_ge s i (by omega)]
     rfl
def resW (L : List ByteArray) (o : Option (List (List UInt8))) : List ByteArray × Int := match o with | some ws => (L ++ ws.map strB, 0) | none => ([], 270)
theorem take_strB (s : ByteArray) (a b : Nat) : s.extract (a : Int).toNat (b : Int).toNat = strB (cut s a b) := by rw [Int.toNat_natCast, Int.toNat_natCast, strB_cut]
theorem j3_eq (s : ByteArray) (hs : s.size <= 40000) (at_ e k K : Nat) (L : List ByteArray) (hae : at_ <= e) (he : e <= s.size) (hL : L.length <= at_) (hK : K + 3 <= k)
 (H : ∀ (a' k' : Nat) (L' : List ByteArray), e < a' -> a' <= s.size -> L'.length <= a' -> K <= k' -> liveryref27_Words.l0 k' s L' (a' : Int) = some (resW L' (wl (s.data.toList.drop a') [] false false false))) :
 liveryref27_Words.j3 k s L (at_ : Int) (e : Int) = some (resW L (if cut s at_ e = [] then none else restW (cut s at_ e) (s.data.toList.drop e))) := by
 obtain ⟨k, rfl⟩ : ∃ m, k = m + 2 := ⟨k - 2, by omega⟩
 simp only [liveryref27_Words.j3]
 by_cases h0 : at_ = e
 · subst h0
   rw [if_pos rfl, cut_self, if_pos rfl]
   simp only [liveryref27_Words.j4]
   rw [if_pos trivial]
   rfl
 · have hne := cut_ne s at_ e (by omega) he
   rw [if_neg (by omega), if_neg hne]
   have J : ∀ (hx : e = s.size \/ (e < s.size /\ s.data.toList.getD e 0 = 32)), liveryref27_Words.j4 (k + 1) s L (at_ : Int) (e : Int) false = some (resW L (restW (cut s at_ e) (s.data.toList.drop e))) := by
    intro hx
    simp only [liveryref27_Words.j4]
    rw [if_neg (by simp), if_pos (by omega), if_pos (by omega), if_pos (by omega), if_pos (by omega), take_strB]
    simp only [Option.bind_some]
    rcases hx with hx | ⟨hx, hb⟩
    · subst hx
      rw [if_pos rfl, drop_ge s s.size (Nat.le_refl _)]
      rfl
    · rw [if_neg (by omega), wr64 (by omega) (by omega), show ((e : Int) + 1) = ((e + 1 : Nat) : Int) by omega, H (e + 1) k _ (by omega) (by omega) (by simp; omega) (by omega), drop_consB s e hx, hb]
      simp only [restW, if_true]
      cases wl (List.drop (e + 1) s.data.toList) [] false false false with
      | none => rfl
      | some ws => simp [resW]
   by_cases h1 : e < s.size
   · rw [if_pos (by omega), if_pos (by omega), bt_nat s e h1]
     by_cases h32 : s.data.toList.getD e 0 = 32
     · rw [show ((((s.data.toList.getD e 0).toNat : Nat) : Int) != 32) = false by rw [h32]; rfl]
       exact J (.inr ⟨h1, h32⟩)
     · have : ((((s.data.toList.getD e 0).toNat : Nat) : Int) != 32) = true := bne_iff_ne.2 (fun h => h32 ((byte_eq _ 32 (by omega)).1 h))
       rw [this]
       simp only [liveryref27_Words.j4]
       rw [if_pos trivial, drop_consB s e h1]
       simp only [restW]
       rw [if_neg h32]
       rfl
   · rw [if_neg (by omega)]
     exact J (.inl (by omega))
theorem cut_takeWhile (s : ByteArray) (a : Nat) : cut s a (a + ((s.data.toList.drop a).takeWhile plainB).length) = (s.data.toList.drop a).takeWhile plainB /\ s.data.toList.drop (a + ((s.data.toList.drop a).takeWhile plainB).length) = (s.data.toList.drop a).dropWhile plainB := by
 have h := List.takeWhile_append_dropWhile (p := plainB) (l := s.data.toList.drop a)
 constructor
 · unfold cut
   rw [Nat.add_sub_cancel_left]
   conv => lhs; rw [<- h]
   rw [List.take_left']
   rw [h]
 · rw [<- List.drop_drop]
   conv => lhs; rw [<- h]
   rw [List.drop_left']
   rw [h]
theorem l1_eq (s : ByteArray) (hs : s.size <= 40000) (L : List ByteArray) (at_ : Nat) : ∀ (d i k : Nat), i <= s.size -> s.size - i <= d -> d < k ->
 ∃ k', k <= k' + ((s.data.toList.drop i).takeWhile plainB).length + 1 /\ liveryref27_Words.l1 k s L (at_ : Int) (i : Int) = liveryref27_Words.j3 k' s L (at_ : Int) ((i + ((s.data.toList.drop i).takeWhile plainB).length : Nat) : Int)
 | d, i, 0, _, _, h => by omega
 | d, i, k + 1, hi, hd, hk => by
   by_cases h : i < s.size
   · rw [drop_consB s i h]
     simp only [liveryref27_Words.l1]
     rw [if_pos (by omega), if_pos (by omega), bt_nat s i h]
     generalize hb : s.data.toList.getD i 0 = b at *
     by_cases h32 : b = 32
     · rw [if_pos (by rw [h32]; rfl)]
       refine ⟨k, by omega, ?_⟩
       subst h32
       simp [List.takeWhile_cons, plainB]
     · rw [if_neg (fun h : (b.toNat : Int) = 32 => h32 ((byte_eq b 32 (by omega)).1 h))]
       by_cases h34 : b = 34
       · rw [if_pos (by rw [h34]; rfl)]
         refine ⟨k, by omega, ?_⟩
         subst h34
         simp [List.takeWhile_cons, plainB]
       · rw [if_neg (fun h : (b.toNat : Int) = 34 => h34 ((byte_eq b 34 (by omega)).1 h)), wr64 (by omega) (by omega)]
         obtain ⟨k', hk', e⟩ := l1_eq s hs L at_ (d - 1) (i + 1) k (by omega) (by omega) (by omega)
         have e5 : ((b :: s.data.toList.drop (i + 1)).takeWhile plainB).length = ((s.data.toList.drop (i + 1)).takeWhile plainB).length + 1 := by
          simp [List.takeWhile_cons, plainB, h32, h34]
         refine ⟨k', by omega, ?_⟩
         rw [show ((i : Int) + 1) = ((i + 1 : Nat) : Int) by omega, e, e5]
         congr 1
         omega
   · simp only [liveryref27_Words.l1]
     rw [if_neg (by omega)]
     refine ⟨k, by omega, ?_⟩
     rw [drop_ge s i (by omega)]
     simp
theorem ref_l0 (s : ByteArray) (hs : s.size <= 40000) : ∀ (d at_ k : Nat) (L : List ByteArray), at_ <= s.size -> s.size - at_ <= d -> L.length <= at_ -> s.size + 20 + 7 * d <= k ->
 liveryref27_Words.l0 k s L (at_ : Int) = some (resW L (wl (s.data.toList.drop at_) [] false false false))
 | d, at_, k, L, ha, hd, hL, hk => by
   have H : ∀ e, at_ <= e -> ∀ (a' k' : Nat) (L' : List ByteArray), e < a' -> a' <= s.size -> L'.length <= a' -> s.size + 13 + 7 * d - 7 * (e - at_) <= k' -> liveryref27_Words.l0 k' s L' (a' : Int) = some (resW L' (wl (s.data.toList.drop a') [] false false false)) := by
    intro e hae a' k' L' h1 h2 h3 h4
    exact ref_l0 s hs (d - (e - at_) - 1) a' k' L' h2 (by omega) h3 (by omega)
   obtain ⟨k, rfl⟩ : ∃ m, k = m + 3 := ⟨k - 3, by omega⟩
   rw [wl_first]
   by_cases h : at_ < s.size
   · have e1 := drop_consB s at_ h
     simp only [liveryref27_Words.l0]
     rw [if_pos (by omega), if_pos (by omega), bt_nat s at_ h]
     by_cases h34 : s.data.toList.getD at_ 0 = 34
     · rw [h34] at e1 ⊢
       simp only [liveryref27_Words.j1]
       rw [if_pos (show ((((34 : UInt8).toNat : Nat) : Int) == 34) = true from rfl)]
       unfold liveryref27_closed.f
       rw [wr64 (by omega) (by omega), show ((at_ : Int) + 1) = ((at_ + 1 : Nat) : Int) by omega, closed_eq s hs (s.size + 1) (at_ + 1) (k + 1) (by omega) (by omega) (by omega), e1]
       simp only [Option.bind_some, firstW, if_true]
       cases hc : closedL (s.data.toList.drop (at_ + 1)) with
       | none =>
         simp only [Option.map_none, Option.bind_none]
         rw [if_pos (by omega)]
         rfl
       | some x =>
         obtain ⟨h1, h2⟩ := closedL_len _ _ hc
         have hl := congrArg List.length h1
         rw [List.length_append, List.length_drop, Array.length_toList, show s.data.size = s.size from rfl] at hl
         have c1 : cut s at_ (at_ + 1 + x.1.length) = 34 :: x.1 := by
          unfold cut
          rw [e1, <- h1, show at_ + 1 + x.1.length - at_ = x.1.length + 1 by omega, List.take_succ_cons, List.take_left']
          rfl
         have c2 : s.data.toList.drop (at_ + 1 + x.1.length) = x.2 := by
          rw [<- List.drop_drop, <- h1, List.drop_left']
          rfl
         simp only [Option.map_some, Option.bind_some]
         rw [if_neg (by omega), j3_eq s hs at_ (at_ + 1 + x.1.length) (k + 1) _ L (by omega) (by omega) hL (by omega) (H _ (by omega)), c1, c2]
     · have : ((((s.data.toList.getD at_ 0).toNat : Nat) : Int) == 34) = false := by
        rw [beq_eq_false_iff_ne]
        exact fun h => h34 ((byte_eq _ 34 (by omega)).1 h)
       rw [this]
       simp only [liveryref27_Words.j1]
       rw [if_neg (by simp)]
       obtain ⟨k', hk', e⟩ := l1_eq s hs L at_ (s.size - at_) at_ (k + 1) (by omega) (by omega) (by omega)
       have hle : ((s.data.toList.drop at_).takeWhile plainB).length <= s.size - at_ := by
        refine Nat.le_trans (List.takeWhile_prefix _).length_le ?_
        rw [List.length_drop, Array.length_toList]
        exact Nat.le_refl _
       rw [e, j3_eq s hs at_ _ k' _ L (by omega) (by omega) hL (by omega) (H _ (by omega)), (cut_takeWhile s at_).1, (cut_takeWhile s at_).2, e1]
       simp only [firstW]
       rw [if_neg h34]
       rfl
   · simp only [liveryref27_Words.l0]
     rw [if_neg (by omega)]
     simp only [liveryref27_Words.j1]
     rw [if_neg (by simp)]
     simp only [liveryref27_Words.l1]
     rw [if_neg (by omega)]
     obtain ⟨k, rfl⟩ : ∃ m, k = m + 1 := ⟨k - 1, by omega⟩
     simp only [liveryref27_Words.j3]
     rw [if_pos trivial]
     cases k with
     | zero => omega
     | succ k =>
       simp only [liveryref27_Words.j4]
       rw [drop_ge s at_ (by omega)]
       rfl
theorem r_Words (s : ByteArray) (w : World) (hs : s.size <= 40000) :
 Calls Tryz.prog 39 #[.string s] w fun e w' => (∃ v, e = .returned (.tuple #[v, .int .i64 (if (wordsS s).isSome = true then 0 else 270)]) /\ Kd.R Kd.string 9 w' w.heap.size (fun _ => True) v ((wordsS s).getD [])) /\ Below w.heap.size w w' := by
 have hr := ref_l0 s hs s.size 0 400001 [] (by omega) (by omega) (by simp) (by omega)
 have hf : liveryref27_Words.f 400001 s = some (resW [] (wl s.data.toList [] false false false)) := by
  unfold liveryref27_Words.f
  rw [show (0 : Int) = ((0 : Nat) : Int) from rfl, hr, List.drop_zero]
 refine (liveryref27_Words.calls 400001 s _ _ w hf).mono ?_
 intro e w' h
 unfold wordsS
 cases hw : wl s.data.toList [] false false false with
 | none =>
   rw [hw] at h
   obtain ⟨v, h1, h2, h3⟩ := h
   refine ⟨⟨v, ?_, ?_⟩, h3⟩
   · simpa [resW] using h1
   · simpa [resW] using h2
 | some ws =>
   rw [hw] at h
   obtain ⟨v, h1, h2, h3⟩ := h
   refine ⟨⟨v, ?_, ?_⟩, h3⟩
   · simpa [resW] using h1
   · simpa [resW] using h2
end Go.Proofs.YtpdinahdcedmkaaGreatDoor.Ext
namespace Go.Proofs.YtpdinahdcedmkaaGreatDoor.Ext
open Go.Proofs.YtpdinahdcedmkaaGreatDoor.P
open Go.RowKit YtpdinahdcedmkaaGreatDoorW.PrintWords YtpdinahdcedmkaaGreatDoorW.PrintLast YtpdinahdcedmkaaGreatDoorW.PrintMore Go.Proofs.YtpdinahdcedmkaaGreatDoor.Spec
def lvR (s : ByteArray) : Lv := if 0 <= slashI s then lvOf s else ⟨0, 0⟩
theorem strAt_C {w : World} {A : Option Addr} {l : List ByteArray} (h : ExtQ.StrAt w A l) (hl : l.length <= 1073741824) : Kd.C Kd.string w A l.length l := by
 refine ⟨rfl, by omega, fun hn => ?_⟩
 obtain ⟨b, i, cells, fr, rfl, h2, h3⟩ := h.out hn
 refine ⟨_, rfl, fun j p hj => ⟨[.string p], rfl, rfl, fun k u hk => ?_⟩⟩
 match k, hk with
 | 0, hk =>
   cases hk
   have e : (⟨b, i, none⟩ : Addr).add (j * 1 + 0) = ⟨b, i + j, none⟩ := by
    unfold Addr.add
    by_cases h0 : j = 0
    · subst h0; simp
    · simp [h0]
   show w.cell? ((⟨b, i, none⟩ : Addr).add (j * 1 + 0)) = _
   rw [e]
   exact h3 j p hj
theorem idxB_at : ∀ (l : List UInt8) (j : Nat), j < l.length -> (∀ k < j, l.getD k 0 ≠ 47) -> l.getD j 0 = 47 -> Lib.indexByte l 47 = (j : Int)
 | [], j, h, _, _ => by simp at h
 | x :: t, 0, _, _, h => by
   have : x = 47 := by simpa using h
   subst this
   simp [Lib.indexByte]
 | x :: t, j + 1, h, hn, he => by
   have h0 := hn 0 (by omega)
   have ih := idxB_at t j (by simpa using h) (fun k hk => by have := hn (k + 1) (by omega); simpa using this) (by simpa using he)
   have h1 : x ≠ 47 := by simpa using h0
   rw [Lib.indexByte, ih, if_neg (by simpa using h1), if_neg (by simp)]
   simp
theorem idxB_no : ∀ (l : List UInt8), (∀ k < l.length, l.getD k 0 ≠ 47) -> Lib.indexByte l 47 = -1
 | [], _ => rfl
 | x :: t, hn => by
   have h0 := hn 0 (by simp)
   have ih := idxB_no t (fun k hk => by have := hn (k + 1) (by simpa using hk); simpa using this)
   have h1 : x ≠ 47 := by simpa using h0
   rw [Lib.indexByte, ih, if_neg (by simpa using h1), if_pos (by simp)]
theorem bt_ne (s : ByteArray) (k : Nat) (hk : k < s.size) : bt s (k : Int) = 47 ↔ s.data.toList.getD k 0 = 47 := by
 rw [bt_nat s k hk]
 exact byte_eq _ 47 (by omega)
theorem lvR_at (s : ByteArray) (j : Nat) (hj : j < s.size) (hn : ∀ k < j, bt s (k : Int) ≠ 47) (h : bt s (j : Int) = 47) : lvR s = ⟨(ExtP.codeS (s.extract 0 j)).2.1, (ExtP.codeS (s.extract (j + 1) s.size)).2.1⟩ := by
 have hl : s.data.toList.length = s.size := by rw [Array.length_toList]; rfl
 have hi : slashI s = (j : Int) := idxB_at _ j (by omega) (fun k hk e => hn k hk ((bt_ne s k (by omega)).2 e)) ((bt_ne s j hj).1 h)
 unfold lvR
 rw [if_pos (by omega)]
 unfold lvOf slashS
 rw [if_pos (by omega), hi, Int.toNat_natCast]
theorem lvR_no (s : ByteArray) (hn : ∀ k < s.size, bt s (k : Int) ≠ 47) : lvR s = ⟨0, 0⟩ := by
 have hl : s.data.toList.length = s.size := by rw [Array.length_toList]; rfl
 have hi : slashI s = -1 := idxB_no _ (fun k hk e => hn k (by omega) ((bt_ne s k (by omega)).2 e))
 unfold lvR
 rw [if_neg (by omega)]
theorem sl_to (s : ByteArray) (j : Int) (h0 : 0 <= j) (h2 : j <= s.size) : ∀ W, (Instr.slice 9 (.string s) none (some (.int .i64 j)) none).run Tryz.prog W = .ok (.string (s.extract 0 j.toNat)) W := by
 intro W
 simp [go_sem, Tryz.underlying9, h0, h2]
theorem take_snocL (l : List ByteArray) (i : Nat) (h : i < l.length) : (l.take (i + 1)).map lvR = (l.take i).map lvR ++ [lvR (l.getD i ByteArray.empty)] := by
 rw [List.take_add_one, List.getD_eq_getElem?_getD, List.getElem?_eq_getElem h, List.map_append]
 rfl
theorem r_levels (A : Option Addr) (c : Nat) (l : List ByteArray) (w : World) (hA : Kd.C Kd.string w A l.length l) (hc : l.length <= c) (hl : l.length <= 1073741824) (hz : ∀ i, (l.getD i ByteArray.empty).size <= 1099511627776) :
 Calls Tryz.prog 90 #[.slice A l.length c] w fun e w' => (∃ v, e = .returned v /\ Kd.R k74 74 w' w.heap.size (fun _ => True) v (l.map lvR)) /\ Below w.heap.size w w' := by
 have HC := Zz.mk hA
 have HZ := Zz.mk hz
 clear hA hz
 go_enter Tryz.func90, Tryz.ntmps90
 go_wp2
 go_loopw [3, 11] (fun v3 v11 wr => ∃ i : Nat, v11 = .int .i64 i /\ i <= l.length /\ Zz (Kd.R k74 74 wr w.heap.size (fun _ => True) v3 ((l.take i).map lvR)) /\ Zz (Below w.heap.size w wr)) (fun _ v11 _ => l.length - (intOf v11).toNat)
 case atStart => exact ⟨0, rfl, by omega, ⟨⟨fun _ _ => trivial, [], World.ownsRow_lit (base := w.heap.size) (e := 74) (size := 2) w #[] 0 (Nat.le_refl _) (by simp [maxLen]) (by simp), rfl, fun j p hj => by simp at hj⟩⟩, ⟨(Below.refl _ _).alloc (Nat.le_refl _) _⟩⟩
 case round =>
  obtain ⟨i, rfl, hi, HR, HB⟩ := hrel
  by_cases hlt : i < l.length
  · obtain ⟨ad, e0, hx⟩ := Kd.at_string HC.out (i : Int) (by omega) (by omega)
    cases e0
    simp only [rdOf, Int.toNat_natCast] at hx
    have hx1 := (HB.out.cell (World.block_lt_of_cell? w _ hx)).trans hx
    clear hx
    have hsz := HZ.out i
    have HT := Zz.mk (take_snocL l i hlt)
    have hLl : ((l.take i).map lvR).length <= 1073741824 := by rw [List.length_map, List.length_take]; omega
    generalize l.getD i ByteArray.empty = s at *
    generalize hL : (l.take i).map lvR = L at *
    clear hL
    have HRb := Zz.mk (Kd.R_mono (Kd.R_bound HR.out) (ok' := fun k => k < wr.heap.size) (fun k hk => hk.2.2.1))
    have HR1 := Zz.mk (Kd.R_below HRb.out (ExtQ.cellsBelow wr (.cells #[.int .u32 0, .int .u32 0] 74)))
    have HB1 := Zz.mk (HB.out.alloc HB.out.size (.cells #[.int .u32 0, .int .u32 0] 74))
    have HV1 := Zz.mk (heap_alloc_new wr (.cells #[.int .u32 0, .int .u32 0] 74))
    have hbs : w.heap.size <= wr.heap.size := HB.out.size
    clear HR HRb HB
    go_wp2
    go_loop [18] (fun v18 => ∃ j : Nat, v18 = .int .i64 j /\ j <= s.size /\ Zz (∀ k < j, bt s (k : Int) ≠ 47)) (fun v18 => s.size - (intOf v18).toNat)
    case atStart => exact ⟨0, rfl, by omega, ⟨fun k hk => by omega⟩⟩
    case round =>
     obtain ⟨j, rfl, hj, HJ⟩ := hrel
     by_cases hjl : j < s.size
     · have ix := idx_str s j hjl
       by_cases hb47 : bt s (j : Int) = 47
       · have HLV := Zz.mk (lvR_at s j hjl HJ.out hb47)
         have sl1 := sl_to s (j : Int) (by omega) (by omega)
         have sl2 := sl_from s ((j : Int) + 1) (by omega) (by omega)
         rw [Int.toNat_natCast] at sl1
         rw [show ((j : Int) + 1).toNat = j + 1 by omega] at sl2
         have d1 := Lib.hid (fun W => ExtP.r_Code (s.extract 0 j) W (by rw [ByteArray.size_extract]; omega))
         have d2 := Lib.hid (fun W => ExtP.r_Code (s.extract (j + 1) s.size) W (by rw [ByteArray.size_extract]; omega))
         rw [hb47] at ix
         clear HJ hb47
         generalize ExtP.codeS (s.extract 0 j) = C1 at *
         generalize ExtP.codeS (s.extract (j + 1) s.size) = C2 at *
         generalize s.extract 0 j = sa at *
         generalize s.extract (j + 1) s.size = sb at *
         go_wp2_with fail
         refine (d1.out _).mono ?_
         rintro e v3 ⟨rfl, hb⟩
         have HB3 := Zz.mk (HB1.out.trans (hb.mono HB1.out.size))
         have HR3 := Zz.mk (Kd.R_below HR1.out hb)
         have HV3 := Zz.mk (krow HV1.out hb)
         have y0 := blk_cell HV3.out 0
         have z0 := blk_free HV3.out 0
         have HB4 := Zz.mk (HB3.out.setCell (p := ⟨wr.heap.size, 0, none⟩) hbs (.int .u32 C1.2.1))
         have HR4 := Zz.mk (Kd.R_far (p := ⟨wr.heap.size, 0, none⟩) HR3.out (fun k hk => Nat.ne_of_lt hk) (.int .u32 C1.2.1))
         have HV4 := Zz.mk (blk_set HV3.out 0 (.int .u32 C1.2.1))
         clear hb d1
         go_wp2_with fail
         refine (d2.out _).mono ?_
         rintro e v4 ⟨rfl, hb⟩
         have HB5 := Zz.mk (HB4.out.trans (hb.mono HB4.out.size))
         have HR5 := Zz.mk (Kd.R_below HR4.out hb)
         have HV5 := Zz.mk (krow HV4.out hb)
         have y1 := blk_cell HV5.out 1
         have z1 := blk_free HV5.out 1
         have HB6 := Zz.mk (HB5.out.setCell (p := ⟨wr.heap.size, 1, none⟩) hbs (.int .u32 C2.2.1))
         have HR6 := Zz.mk (Kd.R_mono (Kd.R_far (p := ⟨wr.heap.size, 1, none⟩) HR5.out (fun k hk => Nat.ne_of_lt hk) (.int .u32 C2.2.1)) (ok' := fun _ => True) (fun _ _ => trivial))
         have HV6 := Zz.mk (blk_set HV5.out 1 (.int .u32 C2.2.1))
         have m0 := blk_cell HV6.out 0
         have m1 := blk_cell HV6.out 1
         clear hb d2
         go_upto_region 13 with fail
         generalize v4.setCell ⟨wr.heap.size, 1, none⟩ (.int .u32 C2.2.1) = W6 at *
         clear y0 z0 y1 z1 HB3 HR3 HV3 HB4 HR4 HV4 HB5 HR5 HV5 HR1 HB1 HV1
         have hw6 : w.heap.size <= W6.heap.size := HB6.out.size
         go_wp2_with (first
          | ((with_reducible refine gate_builtin (b := .append) (xs := #[.tmp 45, .tmp 47]) rfl ?_)
             at_builtin
             refine Kd.R_append k74 (w0 := W6) w.heap.size rfl (.tmp 45) (.tmp 47) 26 74 (.agg #[.int .u32 0, .int .u32 0]) 8 rfl Tryz.underlying26 info_lv rfl (by decide) (by omega) u3 L ⟨C1.2.1, C2.2.1⟩ [.int .u32 C1.2.1, .int .u32 C2.2.1] (fun _ => True) (fun _ => False) rfl rfl (k74_mkM _ _ _ ⟨C1.2.1, C2.2.1⟩) (fun _ hk => hk.elim) (fun _ _ => trivial) HR6.out (Below.refl _ _) (by omega) (by omega) ?_
             intro u7 w7 ho hb hg hat
             have HR7 := Zz.mk ho
             have HB7 := Zz.mk (HB6.out.trans hb)
             clear ho hb hg hat)
          | fail)
         go_roundw
         case rel => exact ⟨i + 1, by go_num, by omega, ⟨by rw [HT.out, HLV.out]; exact HR7.out⟩, HB7⟩
         case measure => simp [intOf]; omega
       · have HJ2 := Zz.mk (lt_snoc (P := fun k => bt s (k : Int) ≠ 47) HJ.out hb47)
         clear HJ
         generalize bt s (j : Int) = bj at *
         go_wp2
         go_round
         case rel => exact ⟨j + 1, by go_num, by omega, HJ2⟩
         case measure => simp [intOf]; omega
     · obtain rfl : j = s.size := by omega
       have HLV := Zz.mk (lvR_no s HJ.out)
       have HB6 := HB1
       have HR6 := Zz.mk (Kd.R_mono HR1.out (ok' := fun _ => True) (fun _ _ => trivial))
       have m0 := blk_cell HV1.out 0
       have m1 := blk_cell HV1.out 1
       clear HJ
       go_upto_region 13 with fail
       generalize wr.alloc (.cells #[.int .u32 0, .int .u32 0] 74) = W6 at *
       clear HR1 HB1 HV1
       have hw6 : w.heap.size <= W6.heap.size := HB6.out.size
       go_wp2_with (first
        | ((with_reducible refine gate_builtin (b := .append) (xs := #[.tmp 45, .tmp 47]) rfl ?_)
           at_builtin
           refine Kd.R_append k74 (w0 := W6) w.heap.size rfl (.tmp 45) (.tmp 47) 26 74 (.agg #[.int .u32 0, .int .u32 0]) 8 rfl Tryz.underlying26 info_lv rfl (by decide) (by omega) u3 L ⟨0, 0⟩ [.int .u32 0, .int .u32 0] (fun _ => True) (fun _ => False) rfl rfl (k74_mkM _ _ _ ⟨0, 0⟩) (fun _ hk => hk.elim) (fun _ _ => trivial) HR6.out (Below.refl _ _) (by omega) (by omega) ?_
           intro u7 w7 ho hb hg hat
           have HR7 := Zz.mk ho
           have HB7 := Zz.mk (HB6.out.trans hb)
           clear ho hb hg hat)
        | fail)
       go_roundw
       case rel => exact ⟨i + 1, by go_num, by omega, ⟨by rw [HT.out, HLV.out]; exact HR7.out⟩, HB7⟩
       case measure => simp [intOf]; omega
  · obtain rfl : i = l.length := by omega
    have HR1 := HR.out
    rw [List.take_length] at HR1
    go_wp2
    go_ret
    exact ⟨⟨_, rfl, HR1⟩, HB.out⟩
def pickR (s : ByteArray) : List Bool := ((runesOf s).filter fun x => decide (x.2.1 ≠ 46)).map fun x => decide (x.2.1 = 43)
def readR (nl : List ByteArray) (c : Int) (s0 : ByteArray) (tl : List ByteArray) (x : Act) : Act :=
 if c = 100 then { x with f1 := namedR nl s0 } else
 if c = 116 then { x with f2 := namedR nl s0 } else
 if c = 107 then { x with f6 := (numS s0).1 % 4294967296 } else
 if c = 105 then { x with f7 := (numS s0).1 % 4294967296 } else
 if c = 98 \/ c = 110 then (if (numS s0).1 <= 1073741824 then { x with f9 := (numS s0).1 } else x) else
 if c = 119 \/ c = 120 then { x with f10 := (unhexS s0).1 } else
 if c = 109 then { x with f10 := bytesOf (unqS s0).1 } else
 if c = 114 then { x with f8 := ⟨(numS s0).1, match tl with | [] => x.f8.f1 | s1 :: _ => (numS s1).1⟩ } else
 if c = 115 then (match tl with
  | [] => { x with f3 := 1, f4 := [] }
  | s1 :: _ => if s0 = xmssB then { x with f3 := 2, f4 := [], f5 := (ExtP.codeS s1).2.1 } else { x with f3 := 1, f4 := tl.map lvR }) else
 { x with f11 := x.f11 ++ pickR s0 }
def readsR (nl : List ByteArray) : List UInt8 -> List ByteArray -> Act -> Option Act
 | [], _, x => some x
 | _ :: _, [], _ => none
 | c :: cs, s0 :: tl, x => readsR nl cs tl (readR nl ((c.toNat : Nat) : Int) s0 tl x)
theorem named_back (nl : List ByteArray) (h : namesOk nl nl.length = true) (d : Int) (h0 : 0 <= d) (h1 : d < (nl.length : Int)) : namedR nl (quoteS (nl.getD d.toNat ByteArray.empty)) = d := by
 rw [namedR_hit nl _ d.toNat (by omega) rfl (fun j hj he => names_uniq h d.toNat j (by omega) hj (quoteS_inj he))]
 omega
theorem lvR_back (v : Lv) (h1 : 0 <= v.f0) (h2 : 0 <= v.f1) (k1 : known 2 v.f0 = true) (k2 : known 1 v.f1 = true) : lvR (lvB v) = v := by
 have n1 := nm_back 2 v.f0 h1 k1
 have hi : slashI (lvB v) = ((ExtP.nameS 2 v.f0).data.toList.length : Int) := by
  unfold slashI
  rw [lvB_data, idx_at _ _ (fun x hx => (n1.2.1 x hx).2.2)]
 unfold lvR
 rw [if_pos (by rw [hi]; omega)]
 exact lvOf_back v h1 h2 k1 k2
theorem marksR_ascii (s : ByteArray) (h : ∀ i, i < s.size -> (s.data.toList.getD i 0).toNat < 128) : ∀ f pos, s.size <= pos + f -> ((rns s f pos).filter fun x => decide (x.2.1 ≠ 46)).map (fun x => decide (x.2.1 = 43)) = ((s.data.toList.drop pos).filter fun b => decide (b ≠ 46)).map (fun b => decide (b = 43)) := by
 have hl : s.data.toList.length = s.size := by rw [Array.length_toList]; rfl
 intro f
 induction f with
 | zero => intro pos hf; rw [List.drop_of_length_le (by omega)]; rfl
 | succ f ih =>
   intro pos hf
   unfold rns
   by_cases hp : pos < s.size
   · have h0 := h pos hp
     have hd : Utf8.decode s pos = ((s.data.toList.getD pos 0).toNat, 1) := by
      rw [Lib.decode_N]
      exact Lib.decodeN_ascii _ _ _ _ _ h0
     rw [if_pos hp, hd]
     have hc : s.data.toList.drop pos = s.data.toList.getD pos 0 :: s.data.toList.drop (pos + 1) := by
      rw [List.drop_eq_getElem_cons (by omega), List.getD_eq_getElem?_getD, List.getElem?_eq_getElem (by omega)]
      rfl
     rw [hc]
     have ih2 := ih (pos + 1) (by omega)
     have e46 : ((s.data.toList.getD pos 0).toNat = 46) ↔ s.data.toList.getD pos 0 = 46 := ⟨fun e => UInt8.toNat_inj.1 e, fun e => by rw [e]; rfl⟩
     have e43 : ((s.data.toList.getD pos 0).toNat = 43) ↔ s.data.toList.getD pos 0 = 43 := ⟨fun e => UInt8.toNat_inj.1 e, fun e => by rw [e]; rfl⟩
     clear hc hd h0
     generalize s.data.toList.getD pos 0 = bb at *
     by_cases c1 : bb = 46
     · have c2 : bb.toNat = 46 := e46.2 c1
       rw [List.filter_cons_of_neg (by simp [c2]), List.filter_cons_of_neg (by simp [c1])]
       exact ih2
     · have c2 : ¬ bb.toNat = 46 := fun e => c1 (e46.1 e)
       rw [List.filter_cons_of_pos (by simpa using c2), List.filter_cons_of_pos (by simpa using c1), List.map_cons, List.map_cons]
       show decide _ :: _ = decide _ :: _
       rw [ih2]
       congr 1
       rw [decide_eq_decide]
       exact e43
   · rw [if_neg hp, List.drop_of_length_le (by omega)]
     rfl
theorem pickR_back (l : List Bool) : pickR (pickS l) = l := by
 cases l with
 | nil => decide +kernel
 | cons b t =>
   unfold pickR runesOf
   have hd : (pickS (b :: t)).data.toList = (b :: t).map markB := rfl
   rw [marksR_ascii _ _ _ 0 (by omega), hd, List.drop_zero]
   · have hf : ((b :: t).map markB).filter (fun b => decide (b ≠ 46)) = (b :: t).map markB := by
      rw [List.filter_eq_self]
      intro x hx
      rw [List.mem_map] at hx
      obtain ⟨y, _, rfl⟩ := hx
      cases y <;> decide
     rw [hf, List.map_map]
     conv => rhs; rw [<- List.map_id (b :: t)]
     apply List.map_congr_left
     intro x _
     cases x <;> rfl
   · intro i hi
     rw [hd, List.getD_eq_getElem?_getD, List.getElem?_map]
     cases (b :: t)[i]? with
     | none => decide
     | some x => cases x <;> decide
structure FitR (nl : List ByteArray) (x : Act) : Prop where
 d : namedR nl (quoteS (nl.getD x.f1.toNat ByteArray.empty)) = x.f1
 t : namedR nl (quoteS (nl.getD x.f2.toNat ByteArray.empty)) = x.f2
 k : (numS (decS (IntKind.u64.wrap x.f6))).1 % 4294967296 = x.f6
 i : (numS (decS (IntKind.u64.wrap x.f7))).1 % 4294967296 = x.f7
 n : (numS (decS (IntKind.u64.wrap x.f9))).1 = x.f9
 le : x.f9 <= 1073741824
 r : (⟨(numS (decS x.f8.f0)).1, (numS (decS x.f8.f1)).1⟩ : S30) = x.f8
 p : pickR (pickS x.f11) = x.f11
theorem fitR {nl : List ByteArray} {x : Act} (hx : ActOk x) (hn : namesOk nl nl.length = true) (hm : mayS nl.length x = true) : FitR nl x := by
 obtain ⟨d, t, _, _, _, _, _, nn, _⟩ := may_facts hx hm
 have h6 := hx.ky
 have h7 := hx.td
 have h8 := hx.rg
 unfold u32P at h6 h7
 unfold u64P at h8
 have h9 : 0 <= x.f9 /\ x.f9 <= 1073741824 := by
  unfold numberR at nn
  split at nn
  · simp only [Bool.and_eq_true, decide_eq_true_eq] at nn; omega
  · split at nn
    · simp only [Bool.and_eq_true, decide_eq_true_eq] at nn; omega
    · simp only [decide_eq_true_eq] at nn; omega
 have nb := fun m a b => num_back m a b
 unfold ExtQ.numOf at nb
 have nb0 := fun m a b => num_back0 m a b
 unfold ExtQ.numOf at nb0
 refine ⟨named_back nl hn x.f1 d.1 d.2, named_back nl hn x.f2 t.1 t.2, ?_, ?_, ?_, h9.2, ?_, pickR_back _⟩
 · rw [nb x.f6 (by omega) (by omega)]; omega
 · rw [nb x.f7 (by omega) (by omega)]; omega
 · exact nb x.f9 (by omega) (by omega)
 · rw [nb0 x.f8.f0 (by omega) (by omega), nb0 x.f8.f1 (by omega) (by omega)]
theorem rs_nil (nl l : List ByteArray) (x : Act) : readsR nl [] l x = some x := by unfold readsR; rfl
theorem rs_cons (nl : List ByteArray) (c : UInt8) (cs : List UInt8) (s0 : ByteArray) (tl : List ByteArray) (x : Act) : readsR nl (c :: cs) (s0 :: tl) x = readsR nl cs tl (readR nl ((c.toNat : Nat) : Int) s0 tl x) := by rw [readsR]
theorem rr_d (nl : List ByteArray) (s0 : ByteArray) (tl : List ByteArray) (x : Act) : readR nl (((100 : UInt8).toNat : Nat) : Int) s0 tl x = { x with f1 := namedR nl s0 } := by unfold readR; simp
theorem rr_t (nl : List ByteArray) (s0 : ByteArray) (tl : List ByteArray) (x : Act) : readR nl (((116 : UInt8).toNat : Nat) : Int) s0 tl x = { x with f2 := namedR nl s0 } := by unfold readR; simp
theorem rr_k (nl : List ByteArray) (s0 : ByteArray) (tl : List ByteArray) (x : Act) : readR nl (((107 : UInt8).toNat : Nat) : Int) s0 tl x = { x with f6 := (numS s0).1 % 4294967296 } := by unfold readR; simp
theorem rr_i (nl : List ByteArray) (s0 : ByteArray) (tl : List ByteArray) (x : Act) : readR nl (((105 : UInt8).toNat : Nat) : Int) s0 tl x = { x with f7 := (numS s0).1 % 4294967296 } := by unfold readR; simp
theorem rr_b (nl : List ByteArray) (s0 : ByteArray) (tl : List ByteArray) (x : Act) : readR nl (((98 : UInt8).toNat : Nat) : Int) s0 tl x = if (numS s0).1 <= 1073741824 then { x with f9 := (numS s0).1 } else x := by unfold readR; simp
theorem rr_n (nl : List ByteArray) (s0 : ByteArray) (tl : List ByteArray) (x : Act) : readR nl (((110 : UInt8).toNat : Nat) : Int) s0 tl x = if (numS s0).1 <= 1073741824 then { x with f9 := (numS s0).1 } else x := by unfold readR; simp
theorem rr_w (nl : List ByteArray) (s0 : ByteArray) (tl : List ByteArray) (x : Act) : readR nl (((119 : UInt8).toNat : Nat) : Int) s0 tl x = { x with f10 := (unhexS s0).1 } := by unfold readR; simp
theorem rr_x (nl : List ByteArray) (s0 : ByteArray) (tl : List ByteArray) (x : Act) : readR nl (((120 : UInt8).toNat : Nat) : Int) s0 tl x = { x with f10 := (unhexS s0).1 } := by unfold readR; simp
theorem rr_m (nl : List ByteArray) (s0 : ByteArray) (tl : List ByteArray) (x : Act) : readR nl (((109 : UInt8).toNat : Nat) : Int) s0 tl x = { x with f10 := bytesOf (unqS s0).1 } := by unfold readR; simp
theorem rr_r (nl : List ByteArray) (s0 s1 : ByteArray) (tl : List ByteArray) (x : Act) : readR nl (((114 : UInt8).toNat : Nat) : Int) s0 (s1 :: tl) x = { x with f8 := ⟨(numS s0).1, (numS s1).1⟩ } := by unfold readR; simp
theorem rr_p (nl : List ByteArray) (s0 : ByteArray) (tl : List ByteArray) (x : Act) : readR nl (((112 : UInt8).toNat : Nat) : Int) s0 tl x = { x with f11 := x.f11 ++ pickR s0 } := by unfold readR; simp
theorem backR_any (nl : List ByteArray) (x : Act) (F : Fits nl x) (G : FitR nl x) (h1 : 1 <= x.f0) (h2 : x.f0 <= 17) (h3 : x.f0 ≠ 2) : readsR nl (rowOf x.f0).2.data.toList (lineW nl x).tail { z34 with f0 := x.f0 } = some x := by
 obtain hf | hf | hf | hf | hf | hf | hf | hf | hf | hf | hf | hf | hf | hf | hf | hf : x.f0 = 1 \/ x.f0 = 3 \/ x.f0 = 4 \/ x.f0 = 5 \/ x.f0 = 6 \/ x.f0 = 7 \/ x.f0 = 8 \/ x.f0 = 9 \/ x.f0 = 10 \/ x.f0 = 11 \/ x.f0 = 12 \/ x.f0 = 13 \/ x.f0 = 14 \/ x.f0 = 15 \/ x.f0 = 16 \/ x.f0 = 17 := by omega
 all_goals
  clear h1 h2 h3
  first
   | (have e1 : (rowOf x.f0).2.data.toList = [100, 119] := by rw [hf]; decide +kernel
      have e3 : (lineW nl x).tail = (quoteS (nl.getD x.f1.toNat ByteArray.empty)) :: (strOfNums (hexS x.f10)) :: [] := by
       unfold lineW
       rw [e1]
       simp only [List.flatMap_cons, List.flatMap_nil]
       simp [wordsOf, sayB])
   | (have e1 : (rowOf x.f0).2.data.toList = [100, 107, 109] := by rw [hf]; decide +kernel
      have e3 : (lineW nl x).tail = (quoteS (nl.getD x.f1.toNat ByteArray.empty)) :: (decS (IntKind.u64.wrap x.f6)) :: (quoteS (strOfNums x.f10)) :: [] := by
       unfold lineW
       rw [e1]
       simp only [List.flatMap_cons, List.flatMap_nil]
       simp [wordsOf, sayB])
   | (have e1 : (rowOf x.f0).2.data.toList = [100, 107, 116, 114] := by rw [hf]; decide +kernel
      have e3 : (lineW nl x).tail = (quoteS (nl.getD x.f1.toNat ByteArray.empty)) :: (decS (IntKind.u64.wrap x.f6)) :: (quoteS (nl.getD x.f2.toNat ByteArray.empty)) :: (decS x.f8.f0) :: (decS x.f8.f1) :: [] := by
       unfold lineW
       rw [e1]
       simp only [List.flatMap_cons, List.flatMap_nil]
       simp [wordsOf, sayB])
   | (have e1 : (rowOf x.f0).2.data.toList = [100, 107, 116, 98] := by rw [hf]; decide +kernel
      have e3 : (lineW nl x).tail = (quoteS (nl.getD x.f1.toNat ByteArray.empty)) :: (decS (IntKind.u64.wrap x.f6)) :: (quoteS (nl.getD x.f2.toNat ByteArray.empty)) :: (decS (IntKind.u64.wrap x.f9)) :: [] := by
       unfold lineW
       rw [e1]
       simp only [List.flatMap_cons, List.flatMap_nil]
       simp [wordsOf, sayB])
   | (have e1 : (rowOf x.f0).2.data.toList = [100, 105] := by rw [hf]; decide +kernel
      have e3 : (lineW nl x).tail = (quoteS (nl.getD x.f1.toNat ByteArray.empty)) :: (decS (IntKind.u64.wrap x.f7)) :: [] := by
       unfold lineW
       rw [e1]
       simp only [List.flatMap_cons, List.flatMap_nil]
       simp [wordsOf, sayB])
   | (have e1 : (rowOf x.f0).2.data.toList = [100, 107] := by rw [hf]; decide +kernel
      have e3 : (lineW nl x).tail = (quoteS (nl.getD x.f1.toNat ByteArray.empty)) :: (decS (IntKind.u64.wrap x.f6)) :: [] := by
       unfold lineW
       rw [e1]
       simp only [List.flatMap_cons, List.flatMap_nil]
       simp [wordsOf, sayB])
   | (have e1 : (rowOf x.f0).2.data.toList = [100] := by rw [hf]; decide +kernel
      have e3 : (lineW nl x).tail = (quoteS (nl.getD x.f1.toNat ByteArray.empty)) :: [] := by
       unfold lineW
       rw [e1]
       simp only [List.flatMap_cons, List.flatMap_nil]
       simp [wordsOf, sayB])
   | (have e1 : (rowOf x.f0).2.data.toList = [110] := by rw [hf]; decide +kernel
      have e3 : (lineW nl x).tail = (decS (IntKind.u64.wrap x.f9)) :: [] := by
       unfold lineW
       rw [e1]
       simp only [List.flatMap_cons, List.flatMap_nil]
       simp [wordsOf, sayB])
   | (have e1 : (rowOf x.f0).2.data.toList = [100, 120] := by rw [hf]; decide +kernel
      have e3 : (lineW nl x).tail = (quoteS (nl.getD x.f1.toNat ByteArray.empty)) :: (strOfNums (hexS x.f10)) :: [] := by
       unfold lineW
       rw [e1]
       simp only [List.flatMap_cons, List.flatMap_nil]
       simp [wordsOf, sayB])
   | (have e1 : (rowOf x.f0).2.data.toList = [100, 110] := by rw [hf]; decide +kernel
      have e3 : (lineW nl x).tail = (quoteS (nl.getD x.f1.toNat ByteArray.empty)) :: (decS (IntKind.u64.wrap x.f9)) :: [] := by
       unfold lineW
       rw [e1]
       simp only [List.flatMap_cons, List.flatMap_nil]
       simp [wordsOf, sayB])
   | (have e1 : (rowOf x.f0).2.data.toList = [100, 112] := by rw [hf]; decide +kernel
      have e3 : (lineW nl x).tail = (quoteS (nl.getD x.f1.toNat ByteArray.empty)) :: (pickS x.f11) :: [] := by
       unfold lineW
       rw [e1]
       simp only [List.flatMap_cons, List.flatMap_nil]
       simp [wordsOf, sayB])
  rw [e3, e1]
  simp only [rs_cons, rs_nil, rr_b, rr_d, rr_i, rr_k, rr_m, rr_n, rr_p, rr_r, rr_t, rr_w, rr_x]
  try rw [if_pos (by rw [G.n]; exact G.le)]
  refine congrArg some ?_
  exact act_ext rfl (by first | exact (F.zd (by rw [hf]; decide +kernel)).symm | exact G.d)
   (by first | exact (F.zt (by rw [hf]; decide +kernel)).symm | exact G.t)
   ((F.zs (by rw [hf]; decide +kernel)).1).symm
   ((F.zs (by rw [hf]; decide +kernel)).2.1).symm
   ((F.zs (by rw [hf]; decide +kernel)).2.2).symm
   (by first | exact (F.zk (by rw [hf]; decide +kernel)).symm | exact G.k)
   (by first | exact (F.zi (by rw [hf]; decide +kernel)).symm | exact G.i)
   (by first | exact (F.zr (by rw [hf]; decide +kernel)).symm | exact G.r)
   (by first | exact (F.zn (by rw [hf]; decide +kernel) (by rw [hf]; decide +kernel)).symm | exact G.n)
   (by first | exact (F.zw (by rw [hf]; decide +kernel) (by rw [hf]; decide +kernel) (by rw [hf]; decide +kernel)).symm | exact F.w | exact F.m)
   (by first | exact (F.zp (by rw [hf]; decide +kernel)).symm | exact G.p)
theorem rr_sx (nl : List ByteArray) (s1 : ByteArray) (tl : List ByteArray) (x : Act) : readR nl (((115 : UInt8).toNat : Nat) : Int) xmssB (s1 :: tl) x = { x with f3 := 2, f4 := [], f5 := (ExtP.codeS s1).2.1 } := by unfold readR; simp
theorem rr_sh (nl : List ByteArray) (tl : List ByteArray) (x : Act) : readR nl (((115 : UInt8).toNat : Nat) : Int) hssB tl x = { x with f3 := 1, f4 := tl.map lvR } := by
 have h : ¬ hssB = xmssB := by decide
 unfold readR
 cases tl with
 | nil => simp
 | cons s t => simp [h]
theorem levels_back {x : Act} (hx : ActOk x) (h : hssS x.f4 = true) : (x.f4.map lvB).map lvR = x.f4 := by
 rw [List.map_map]
 conv => rhs; rw [<- List.map_id x.f4]
 apply List.map_congr_left
 intro v hv
 unfold hssS at h
 simp only [Bool.and_eq_true, List.all_eq_true] at h
 have h3 := h.2.2.1 v hv
 unfold lvOk at h3
 simp only [Bool.and_eq_true] at h3
 obtain ⟨i, hi⟩ := List.mem_iff_getElem?.1 hv
 have hb := hx.bd.lv i
 rw [List.getD_eq_getElem?_getD, hi] at hb
 have hk := fit_known v.f0 v.f1 hb.1.1 hb.2.1 h3.1
 exact lvR_back v hb.1.1 hb.2.1 hk.1 hk.2
theorem backR_2 (nl : List ByteArray) (x : Act) (hx : ActOk x) (F : Fits nl x) (G : FitR nl x) (ky : keyedS x = true) (hf : x.f0 = 2) : readsR nl (rowOf x.f0).2.data.toList (lineW nl x).tail { z34 with f0 := x.f0 } = some x := by
 have e1 : (rowOf x.f0).2.data.toList = [100, 115] := by rw [hf]; decide +kernel
 have e3 : (lineW nl x).tail = quoteS (nl.getD x.f1.toNat ByteArray.empty) :: wordsOf nl x 115 := by
  unfold lineW
  rw [e1]
  simp only [List.flatMap_cons, List.flatMap_nil]
  simp [wordsOf, sayB]
 have hw : wordsOf nl x 115 = if x.f3 = 2 then [xmssB, ExtP.nameS 3 x.f5] else hssB :: x.f4.map lvB := by unfold wordsOf; rw [if_neg (by decide), if_pos rfl]
 have z2 := F.zt (by rw [hf]; decide +kernel)
 have z6 := F.zk (by rw [hf]; decide +kernel)
 have z7 := F.zi (by rw [hf]; decide +kernel)
 have z8 := F.zr (by rw [hf]; decide +kernel)
 have z9 := F.zn (by rw [hf]; decide +kernel) (by rw [hf]; decide +kernel)
 have z10 := F.zw (by rw [hf]; decide +kernel) (by rw [hf]; decide +kernel) (by rw [hf]; decide +kernel)
 have z11 := F.zp (by rw [hf]; decide +kernel)
 unfold keyedS at ky
 rw [if_pos (by rw [hf]; decide +kernel)] at ky
 unfold setsS at ky
 rw [e3, e1, hw]
 by_cases h1 : x.f3 = 1
 · rw [if_pos h1] at ky
   simp only [Bool.and_eq_true, beq_iff_eq] at ky
   rw [if_neg (by omega)]
   simp only [rs_cons, rs_nil, rr_d, rr_sh]
   exact congrArg some (act_ext rfl G.d z2.symm h1.symm (levels_back hx ky.2) ky.1.symm z6.symm z7.symm z8.symm z9.symm z10.symm z11.symm)
 · rw [if_neg h1] at ky
   by_cases h2 : x.f3 = 2
   · rw [if_pos h2] at ky
     simp only [Bool.and_eq_true, decide_eq_true_eq] at ky
     rw [if_pos h2]
     simp only [rs_cons, rs_nil, rr_d, rr_sx]
     exact congrArg some (act_ext rfl G.d z2.symm h2.symm (List.eq_nil_of_length_eq_zero ky.2).symm (nm_back 3 x.f5 hx.bd.xm.1 (xms_nm ky.1)).1 z6.symm z7.symm z8.symm z9.symm z10.symm z11.symm)
   · rw [if_neg h2] at ky; cases ky
theorem readsR_back {nl : List ByteArray} {x : Act} (hx : ActOk x) (hn : namesOk nl nl.length = true) (hm : mayS nl.length x = true) : readsR nl (rowOf x.f0).2.data.toList (lineW nl x).tail { z34 with f0 := x.f0 } = some x := by
 have F := fits hx hn hm
 have G := fitR hx hn hm
 have M := may_facts hx hm
 obtain ⟨h1, h2⟩ := M.2.2.2.2.2.2.2.2.2.2.2
 have ky := M.2.2.2.2.2.2.2.2.2.1
 by_cases h : x.f0 = 2
 · exact backR_2 nl x hx F G ky h
 · exact backR_any nl x F G (by omega) (by omega) h
structure KT (x : Act) : Prop where
 r : ReadOk x
 k : u32P x.f6
 t : u32P x.f7
theorem u32_min (n : Int) (h : 0 <= n) : u32P (min n 4294967295) := ⟨by omega, by omega⟩
theorem u32_mod (n : Int) : u32P (n % 4294967296) := ⟨by omega, by omega⟩
theorem putS_kt {nl : List ByteArray} {c : Int} {l : List ByteArray} {x : Act} (h : KT x) : KT (putS nl c l x).1 := by
 have key : u32P (putS nl c l x).1.f6 /\ u32P (putS nl c l x).1.f7 := by
  unfold putS
  by_cases c0 : c = 100
  · rw [if_pos c0]; exact ⟨h.k, h.t⟩
  rw [if_neg c0]
  by_cases c1 : c = 116
  · rw [if_pos c1]; exact ⟨h.k, h.t⟩
  rw [if_neg c1]
  by_cases c2 : c = 107
  · rw [if_pos c2]; exact ⟨u32_min _ (num_bd _).1, h.t⟩
  rw [if_neg c2]
  by_cases c3 : c = 105
  · rw [if_pos c3]; exact ⟨h.k, u32_min _ (num_bd _).1⟩
  rw [if_neg c3]
  by_cases c4 : c = 98
  · rw [if_pos c4]; exact ⟨h.k, h.t⟩
  rw [if_neg c4]
  by_cases c5 : c = 110
  · rw [if_pos c5]; exact ⟨h.k, h.t⟩
  rw [if_neg c5]
  by_cases c6 : c = 119
  · rw [if_pos c6]; exact ⟨h.k, h.t⟩
  rw [if_neg c6]
  by_cases c7 : c = 120
  · rw [if_pos c7]; exact ⟨h.k, h.t⟩
  rw [if_neg c7]
  by_cases c8 : c = 109
  · rw [if_pos c8]; exact ⟨h.k, h.t⟩
  rw [if_neg c8]
  by_cases c9 : c = 114
  · rw [if_pos c9]; exact ⟨h.k, h.t⟩
  rw [if_neg c9]
  by_cases c10 : c = 115
  · rw [if_pos c10]; exact ⟨h.k, h.t⟩
  rw [if_neg c10]
  exact ⟨h.k, h.t⟩
 exact ⟨putS_ok h.r, key.1, key.2⟩
theorem putsS_kt {nl : List ByteArray} (cs : List UInt8) : ∀ {s : Act × List ByteArray}, KT s.1 -> KT (putsS nl cs s).1 := by
 induction cs with
 | nil => intro s h; exact h
 | cons c t ih => intro s h; exact ih (putS_kt h)
theorem zero_kt (d : Int) : KT { z34 with f0 := d } := ⟨⟨u64z, u64z, fun x h => (by cases h), ⟨fun i => by exact ⟨u32z, u32z⟩, u32z⟩⟩, u32z, u32z⟩
theorem readS_kt (nl ws : List ByteArray) : KT (readS nl ws) := putsS_kt _ (zero_kt _)
theorem numS_bd2 (s : ByteArray) : 0 <= (numS s).1 /\ (numS s).1 < 18446744073709551616 := num_bd s
theorem lvR_bd (s : ByteArray) : u32P (lvR s).f0 /\ u32P (lvR s).f1 := by
 unfold lvR
 split
 · exact ⟨code_bd _, code_bd _⟩
 · exact ⟨u32z, u32z⟩
theorem lvR_map (l : List ByteArray) : lvBd (l.map lvR) := by
 intro i
 rw [List.getD_eq_getElem?_getD, List.getElem?_map]
 cases l[i]? with
 | none => exact ⟨u32z, u32z⟩
 | some s => exact lvR_bd s
theorem lv_nil : lvBd [] := fun i => by exact ⟨u32z, u32z⟩
theorem readR_kt {nl : List ByteArray} {c : Int} {s0 : ByteArray} {tl : List ByteArray} {x : Act} (h : KT x) : KT (readR nl c s0 tl x) := by
 obtain ⟨⟨h1, h2, h3, h4⟩, h5, h6⟩ := h
 have n0 := numS_bd2 s0
 unfold readR
 by_cases c0 : c = 100
 · rw [if_pos c0]; exact ⟨⟨h1, h2, h3, ⟨h4.lv, h4.xm⟩⟩, h5, h6⟩
 rw [if_neg c0]
 by_cases c1 : c = 116
 · rw [if_pos c1]; exact ⟨⟨h1, h2, h3, ⟨h4.lv, h4.xm⟩⟩, h5, h6⟩
 rw [if_neg c1]
 by_cases c2 : c = 107
 · rw [if_pos c2]; exact ⟨⟨h1, h2, h3, ⟨h4.lv, h4.xm⟩⟩, u32_mod _, h6⟩
 rw [if_neg c2]
 by_cases c3 : c = 105
 · rw [if_pos c3]; exact ⟨⟨h1, h2, h3, ⟨h4.lv, h4.xm⟩⟩, h5, u32_mod _⟩
 rw [if_neg c3]
 by_cases c4 : c = 98 \/ c = 110
 · rw [if_pos c4]
   split
   · exact ⟨⟨h1, h2, h3, ⟨h4.lv, h4.xm⟩⟩, h5, h6⟩
   · exact ⟨⟨h1, h2, h3, h4⟩, h5, h6⟩
 rw [if_neg c4]
 by_cases c5 : c = 119 \/ c = 120
 · rw [if_pos c5]; exact ⟨⟨h1, h2, (unhexS_bytes _).1, ⟨h4.lv, h4.xm⟩⟩, h5, h6⟩
 rw [if_neg c5]
 by_cases c6 : c = 109
 · rw [if_pos c6]; exact ⟨⟨h1, h2, bytes_bytesOf _, ⟨h4.lv, h4.xm⟩⟩, h5, h6⟩
 rw [if_neg c6]
 by_cases c7 : c = 114
 · rw [if_pos c7]
   refine ⟨⟨n0, ?_, h3, ⟨h4.lv, h4.xm⟩⟩, h5, h6⟩
   cases tl with
   | nil => exact h2
   | cons s t => exact numS_bd2 s
 rw [if_neg c7]
 by_cases c8 : c = 115
 · rw [if_pos c8]
   cases tl with
   | nil => exact ⟨⟨h1, h2, h3, ⟨lv_nil, h4.xm⟩⟩, h5, h6⟩
   | cons s t =>
     simp only
     split
     · exact ⟨⟨h1, h2, h3, ⟨lv_nil, code_bd _⟩⟩, h5, h6⟩
     · exact ⟨⟨h1, h2, h3, ⟨lvR_map _, h4.xm⟩⟩, h5, h6⟩
 rw [if_neg c8]
 exact ⟨⟨h1, h2, h3, ⟨h4.lv, h4.xm⟩⟩, h5, h6⟩
theorem readsR_kt {nl : List ByteArray} : ∀ (cs : List UInt8) (l : List ByteArray) (x y : Act), KT x -> readsR nl cs l x = some y -> KT y
 | [], l, x, y, h, e => by rw [rs_nil] at e; cases e; exact h
 | c :: cs, [], x, y, h, e => by unfold readsR at e; cases e
 | c :: cs, s0 :: tl, x, y, h, e => by rw [rs_cons] at e; exact readsR_kt cs tl _ y (readR_kt h) e
theorem kt_ok {nl : List ByteArray} {x : Act} (hl : nl.length <= 1048576) (h : KT x) (hm : mayS nl.length x = true) : ActOk x := by
 have hm' := hm
 rw [may_eq] at hm
 unfold mayR b4R at hm
 simp only [Bool.and_eq_true, Bool.not_eq_true', Bool.or_eq_false_iff, decide_eq_false_iff_not] at hm
 obtain ⟨_, _, nn, _, ⟨d1, d2, _, d3, d4, _⟩, _⟩ := hm
 unfold mayS at hm'
 simp only [Bool.and_eq_true] at hm'
 obtain ⟨hr, hk, _⟩ := hm'
 have h0 : 0 <= x.f0 /\ x.f0 < 18 := by
  unfold rowOf at hr
  by_cases h0 : 0 <= x.f0 /\ x.f0 < 18
  · exact h0
  · rw [if_neg h0] at hr
    exact absurd hr (by decide +kernel)
 have h3 : x.f3 = 0 \/ x.f3 = 1 \/ x.f3 = 2 := by
  unfold keyedS setsS at hk
  split at hk
  · split at hk
    · right; left; assumption
    · split at hk
      · right; right; assumption
      · cases hk
  · simp only [Bool.and_eq_true, beq_iff_eq] at hk
    left; exact hk.1
 have h9 : 0 <= x.f9 /\ x.f9 <= 1073741824 := by
  unfold numberR at nn
  split at nn
  · simp only [Bool.and_eq_true, decide_eq_true_eq] at nn; omega
  · split at nn
    · simp only [Bool.and_eq_true, decide_eq_true_eq] at nn; omega
    · simp only [decide_eq_true_eq] at nn; omega
 refine ⟨h.r.bd, h.r.by_, ⟨?_, ?_⟩, h.k, h.t, ?_⟩
 · exact h.r.lo
 · exact h.r.hi
 · intro n hn
   simp only [List.mem_cons, List.not_mem_nil, or_false] at hn
   rcases hn with rfl | rfl | rfl | rfl | rfl <;> omega
def actR (p : Plan) (t : ByteArray) : Option Act :=
 match ExtQ.wordsS t with
 | none => none
 | some ws => if headedS p.f0 p.f1 p.f2 = true /\ 1 <= ExtQ.rowI (ws.headD ⟨#[]⟩) then
    (match readsR p.f2 (rowOf (ExtQ.rowI (ws.headD ⟨#[]⟩))).2.data.toList ws.tail { z34 with f0 := ExtQ.rowI (ws.headD ⟨#[]⟩) } with
    | none => none
    | some x => if mayS p.f2.length x = true /\ lineB p.f2 x = t then some x else none) else none
theorem act_eq (p : Plan) (t : ByteArray) (hl : p.f2.length <= 1048576) : actS p t = actR p t := by
 have names : headedS p.f0 p.f1 p.f2 = true -> namesOk p.f2 p.f2.length = true := by
  intro hh
  unfold headedS at hh
  simp only [Bool.and_eq_true] at hh
  exact hh.2
 have k1 : ∀ x, actS p t = some x -> actR p t = some x := by
  intro x h
  have h' := h
  unfold actS at h
  cases hw : ExtQ.wordsS t with
  | none => rw [hw] at h; cases h
  | some ws =>
    rw [hw] at h
    simp only at h
    split at h
    · rename_i hc
      cases h
      obtain ⟨hh, hr, hm, hlb⟩ := hc
      have hx := kt_ok hl (readS_kt p.f2 ws) hm
      have hn := names hh
      generalize readS p.f2 ws = x at *
      have hw2 := line_words (nl := p.f2) hx hm
      rw [hlb, hw] at hw2
      cases hw2
      obtain ⟨r1, r2⟩ := (may_facts hx hm).2.2.2.2.2.2.2.2.2.2.2
      have he : ExtQ.rowI ((lineW p.f2 x).headD ⟨#[]⟩) = x.f0 := by
       obtain ⟨n, hn⟩ := Int.eq_ofNat_of_zero_le (show 0 <= x.f0 by omega)
       unfold lineW
       rw [List.headD_cons, hn]
       exact row_back ⟨n, by omega⟩ (show 1 <= n by omega)
      unfold actR
      rw [hw]
      simp only
      rw [if_pos ⟨hh, hr⟩, he, readsR_back hx hn hm]
      simp only
      rw [if_pos ⟨hm, hlb⟩]
    · cases h
 have k2 : ∀ x, actR p t = some x -> actS p t = some x := by
  intro x h
  unfold actR at h
  split at h
  · cases h
  · split at h
    · rename_i hc
      split at h
      · cases h
      · rename_i y hy
        split at h
        · rename_i hmy
          cases h
          have hx := kt_ok hl (readsR_kt _ _ _ _ (zero_kt _) hy) hmy.1
          have := act_back (p := p) hx hc.1 hmy.1
          rwa [hmy.2] at this
        · cases h
    · cases h
 cases h1 : actS p t with
 | some x => rw [k1 x h1]
 | none =>
   cases h2 : actR p t with
   | none => rfl
   | some x => rw [k2 x h2] at h1; cases h1
end Go.Proofs.YtpdinahdcedmkaaGreatDoor.Ext
namespace Go.Proofs.YtpdinahdcedmkaaGreatDoor.Ext
open Go.RowKit YtpdinahdcedmkaaGreatDoorW.PrintWords YtpdinahdcedmkaaGreatDoorW.PrintLast YtpdinahdcedmkaaGreatDoorW.PrintMore
theorem rdigit_none (r : Nat) (h1 : ¬ (48 <= r /\ r <= 57)) (h2 : ¬ (97 <= r /\ r <= 102)) : ∀ m i : Nat, i + m = 16 -> V.liveryref01_digit.l0 (m + 1) (r : Int) (i : Int) = some (-1)
 | 0, i, h => by
   unfold V.liveryref01_digit.l0
   rw [if_neg (by omega)]
 | m + 1, i, h => by
   have hd : hexd (i : Int) ≠ (r : Int) /\ 0 <= hexd (i : Int) /\ hexd (i : Int) <= 102 := by unfold hexd; split <;> omega
   unfold V.liveryref01_digit.l0
   rw [if_pos (by omega), if_pos (by omega), bt_hex _ (by omega) (by omega), (i32_w _).symm.trans (IntWalk.i32_in _ (by omega)), if_neg hd.1, w64 _ (by omega)]
   have := rdigit_none r h1 h2 m (i + 1) (by omega)
   push_cast at this
   exact this
theorem rdigit_f (r : Nat) (h : r <= 2147483647) : V.liveryref01_digit.f 17 (r : Int) = some (if isd r = true then dv r else -1) := by
 by_cases h1 : 48 <= r /\ r <= 57
 · obtain rfl | rfl | rfl | rfl | rfl | rfl | rfl | rfl | rfl | rfl : r = 48 \/ r = 49 \/ r = 50 \/ r = 51 \/ r = 52 \/ r = 53 \/ r = 54 \/ r = 55 \/ r = 56 \/ r = 57 := by omega
   all_goals decide +kernel
 · by_cases h2 : 97 <= r /\ r <= 102
   · obtain rfl | rfl | rfl | rfl | rfl | rfl : r = 97 \/ r = 98 \/ r = 99 \/ r = 100 \/ r = 101 \/ r = 102 := by omega
     all_goals decide +kernel
   · have e : isd r = false := by
      unfold isd
      rw [Bool.eq_false_iff]
      simp
      omega
     rw [e, if_neg (by decide)]
     exact rdigit_none r h1 h2 16 0 rfl
theorem c_rdigit (r : Nat) (w : World) (h : r <= 2147483647) :
 Calls Tryz.prog 128 #[.int .i32 r] w fun e w' => e = .returned (.int .i64 (if isd r = true then dv r else -1)) /\ Drawn0 w w' :=
 V.liveryref01_digit.calls 17 r _ w (rdigit_f r h)
theorem refUnhex_walk (s : ByteArray) (w : World) (hs : s.size <= 140737488351232) :
 Calls Tryz.prog 88 #[.string s] w fun e w' => ∃ v : Value, e = .returned (.tuple #[v, .int .i64 (unhexS s).2.1, .int .i64 (unhexS s).2.2]) /\ Kd.R (Kd.int .u8) 5 w' w.heap.size (fun _ => True) v (unhexS s).1 /\ Below w.heap.size w w' := by
 obtain ⟨U, hU⟩ : ∃ U, unhexS s = U := ⟨_, rfl⟩
 have HU := Lib.hid hU
 rw [hU]
 clear hU
 have hnl := rns_len s s.size 0
 go_enter Tryz.func88, Tryz.ntmps88
 go_wp2
 go_loopw [5, 6, 7] (fun v5 v6 v7 wr => ∃ (pos fuel : Nat) (ds : List Int) (hi : Int), v7 = .int .i64 hi /\ wr.heap[w.heap.size + 1]? = some (.stringIter s pos) /\ Zz (Kd.R (Kd.int .u8) 5 wr w.heap.size (fun _ => True) v5 (pk ds)) /\ Zz (s.size <= pos + fuel) /\ (ds.length % 2 = 0 /\ 0 <= hi /\ hi < 16) /\ ds.length + (rns s fuel pos).length <= s.size /\ Zz (Below w.heap.size w wr) /\ ((v6 = .int .i64 (ds.length : Int) /\ Zz (unhexR ds (rv (rns s fuel pos)) = U)) \/ (v6 = .int .i64 ((ds.length : Int) + 1) /\ Zz (unhexR (ds ++ [hi]) (rv (rns s fuel pos)) = U) /\ ds.length + 1 + (rns s fuel pos).length <= s.size))) (fun _ _ _ wr => s.size - wr.iterPos (w.heap.size + 1))
 case atStart =>
  refine ⟨0, s.size, [], 0, rfl, ?_, ⟨?_⟩, ⟨by omega⟩, by simp, by simpa using hnl, ⟨((Below.refl _ _).alloc (Nat.le_refl _) _).alloc (by simp) _⟩, .inl ⟨rfl, ⟨HU.out⟩⟩⟩
  · simpa using iter_new (w.alloc (.cells #[] 5)) s
  · exact Kd.R_of_own ((World.ownsRow_lit (base := w.heap.size) (e := 5) (size := 1) w #[] 0 (Nat.le_refl _) (by simp [maxLen]) (by simp)).alloc _) (fun _ _ => trivial)
 case round =>
  obtain ⟨pos, fuel, ds, hi, rfl, hit, hO, hF0, hE, hN, hB, hcase⟩ := hrel
  have hev := hE.1
  have hi0 := hE.2.1
  have hi1 := hE.2.2
  clear hE
  by_cases hp : pos < s.size
  · have hw1 := Lib.decode_width_pos s pos hp
    obtain ⟨f2, hf2, he2⟩ := rns_step s fuel pos hp hF0.out
    have hnx := fun ty => Lib.run_next_any_at (P := Tryz.prog) wr (w.heap.size + 1) s pos ty hit hp
    have hd3 := decode_le s pos
    have HI0 := Lib.iterAt_heap wr (w.heap.size + 1) s pos (pos + (Utf8.decode s pos).2) hit
    have HB0 := Lib.below_iterAt hB.out (show w.heap.size <= w.heap.size + 1 by omega) s (pos + (Utf8.decode s pos).2)
    have HM0 := iter_less hw1 hit hp
    have HO0 := R_iterAt hO.out hit (pos + (Utf8.decode s pos).2)
    generalize hd : Utf8.decode s pos = d at *
    obtain ⟨r, wd⟩ := d
    simp only at *
    rw [he2] at hcase hN
    simp only [rv, List.map_cons, unhexR, List.length_cons] at hcase hN
    have Cd := fun W => c_rdigit r W hd3
    have HBI := Zz.mk HB0
    have HII := Zz.mk HI0
    have HMM : Zz (s.size - (pos + wd) < s.size - wr.iterPos (w.heap.size + 1)) := ⟨by rwa [iterPos_of HI0] at HM0⟩
    have HOO := Zz.mk HO0
    have hF := Zz.mk hf2
    clear hd he2 hf2 HI0 HB0 HM0 HO0 hO hB hF0
    by_cases hdg : isd r = true
    · simp only [if_pos hdg] at hcase
      have hdb := dv_bd hdg
      rw [hdg, if_pos rfl] at Cd
      have cd := Lib.hid Cd
      clear Cd hdg
      have hdb0 := hdb.1
      have hdb1 := hdb.2
      generalize dv r = dd at *
      clear hdb
      rcases hcase with ⟨rfl, hR⟩ | ⟨rfl, hR, hN2⟩
      · have tev : (((ds.length : Int) % 2) == 0) = true := beq_iff_eq.2 (by omega)
        go_wp2_with (first
         | (go_at_call 128
            refine (cd.out _).mono ?_
            rintro e v1 ⟨rfl, hdr⟩
            have HI1 := Zz.mk (iter_drawn HII.out hdr)
            have HO1 := Zz.mk (R_drawn HOO.out hdr)
            have HB1 := Zz.mk (below_drawn HBI.out hdr)
            clear hdr)
         | fail)
        go_roundw
        case rel => exact ⟨pos + wd, f2, ds, dd, rfl, HI1.out, HO1, hF, ⟨hev, hdb0, hdb1⟩, by omega, HB1, .inr ⟨rfl, hR, by omega⟩⟩
        case measure => rw [iterPos_of HI1.out]; exact HMM.out
      · have tev : ((((ds.length : Int) + 1) % 2) == 0) = false := beq_eq_false_iff_ne.2 (by omega)
        have hpl := pk_len ds
        have hpk := Zz.mk (pk_even2 ds hi dd hev)
        have hw8 : IntKind.u8.wrap (16 * hi + dd) = hi * 16 + dd := by rw [IntWalk.u8_in _ (by omega)]; omega
        go_wp2_with (first
         | (go_at_call 128
            refine (cd.out _).mono ?_
            rintro e v1 ⟨rfl, hdr⟩
            have HI1 := Zz.mk (iter_drawn HII.out hdr)
            have HO1 := Zz.mk (R_drawn HOO.out hdr)
            have HB1 := Zz.mk (below_drawn HBI.out hdr)
            clear hdr)
         | ((with_reducible refine gate_builtin (b := .append) (xs := #[.tmp 26, .tmp 32]) rfl ?_)
            at_builtin
            refine Kd.R_append (Kd.int .u8) (w0 := w) w.heap.size rfl (.tmp 26) (.tmp 32) 31 5 (.int .u8 0) 1 rfl Tryz.underlying31 info_u8 rfl (by decide) (by omega) u5 (pk ds) (hi * 16 + dd) [.int .u8 (hi * 16 + dd)] (fun _ => True) (fun _ => False) rfl rfl ?aP (fun _ hk => hk.elim) ?aF ?aO ?aB ?aS ?aL ?_
            (case aP => exact rfl)
            (case aB => exact (by repeat (first | (with_reducible first | exact HB1.out | apply below_alloc | apply pw_below_drewN | apply below_drew1) | exact HB1.out)))
            (case aF => exact (fun _ _ => trivial))
            (case aO => exact (by (with_reducible repeat (first | apply Kd.R_alloc | apply Kd.R_drewN | apply Kd.R_drew)); exact HO1.out))
            (case aS => exact (below_size (by repeat (first | (with_reducible first | exact HB1.out | apply below_alloc | apply pw_below_drewN | apply below_drew1) | exact HB1.out))))
            (case aL => omega)
            intro v2 w2 ho hb hg hat
            rw [<- hpk.out] at ho
            have HI2 := Zz.mk (iter_grownR HO1.out hg HI1.out)
            have HB2 := Zz.mk hb
            have HO2 := Zz.mk ho
            clear hg hat ho hb))
        have hU2 : Zz (unhexR (ds ++ [hi] ++ [dd]) (rv (rns s f2 (pos + wd))) = U) := hR
        go_roundw
        case rel => exact ⟨pos + wd, f2, ds ++ [hi] ++ [dd], hi, rfl, HI2.out, HO2, hF, by simp; omega, by simp; omega, HB2, .inl ⟨by simp; omega, hU2⟩⟩
        case measure => rw [iterPos_of HI2.out]; exact HMM.out
    · simp only [if_neg hdg] at hcase
      have hdf : isd r = false := by simpa using hdg
      rw [hdf, if_neg (by decide)] at Cd
      have cd := Lib.hid Cd
      clear Cd hdg hdf
      rcases hcase with ⟨rfl, hR⟩ | ⟨rfl, hR, hN2⟩
      · have hR1 := hR.out
        subst hR1
        go_wp2_with (first
         | (go_at_call 128
            refine (cd.out _).mono ?_
            rintro e v1 ⟨rfl, hdr⟩
            have HI1 := Zz.mk (iter_drawn HII.out hdr)
            have HO1 := Zz.mk (R_drawn HOO.out hdr)
            have HB1 := Zz.mk (below_drawn HBI.out hdr)
            clear hdr)
         | fail)
        exact bodyPost_ret (v := .tuple #[.slice none 0 0, .int .i64 ds.length, .int .i64 10]) (by simp [results, Tryz.results88, go_sem]) rfl ⟨_, rfl, Kd.R_nil _ _ _ _ _, HB1.out⟩
      · have hR1 := hR.out
        subst hR1
        go_wp2_with (first
         | (go_at_call 128
            refine (cd.out _).mono ?_
            rintro e v1 ⟨rfl, hdr⟩
            have HI1 := Zz.mk (iter_drawn HII.out hdr)
            have HO1 := Zz.mk (R_drawn HOO.out hdr)
            have HB1 := Zz.mk (below_drawn HBI.out hdr)
            clear hdr)
         | fail)
        exact bodyPost_ret (v := .tuple #[.slice none 0 0, .int .i64 ((ds.length : Int) + 1), .int .i64 10]) (by simp [results, Tryz.results88, go_sem]) rfl ⟨_, by simp, Kd.R_nil _ _ _ _ _, HB1.out⟩
  · have hnx := fun ty => Lib.run_next_end_at (P := Tryz.prog) wr (w.heap.size + 1) s pos ty hit hp
    rw [rns_end s fuel pos hp] at hcase
    simp only [rv, List.map_nil, unhexR] at hcase
    rcases hcase with ⟨rfl, hR⟩ | ⟨rfl, hR, hN2⟩
    · have hR1 := hR.out
      rw [if_neg (by omega)] at hR1
      subst hR1
      have tod : (((ds.length : Int) % 2) == 1) = false := beq_eq_false_iff_ne.2 (by omega)
      go_wp2
      exact bodyPost_ret (v := .tuple #[u5, .int .i64 ds.length, .int .i64 0]) (by simp [results, Tryz.results88, go_sem]) rfl ⟨_, rfl, hO.out, hB.out⟩
    · have hR1 := hR.out
      rw [if_pos (by simp; omega)] at hR1
      subst hR1
      have tod : ((((ds.length : Int) + 1) % 2) == 1) = true := beq_iff_eq.2 (by omega)
      go_wp2
      exact bodyPost_ret (v := .tuple #[.slice none 0 0, .int .i64 ((ds.length : Int) + 1), .int .i64 10]) (by simp [results, Tryz.results88, go_sem]) rfl ⟨_, by simp, Kd.R_nil _ _ _ _ _, hB.out⟩
theorem rdec_l0 : ∀ (k x : Nat) (S : List Int), x < 10 ^ (k + 1) -> x < 18446744073709551616 -> S.length + k <= 100 -> V.liveryref01_Decimal.l0 (k + 1) (x : Int) (strOfNums ([48 + ((x % 10 : Nat) : Int)] ++ S)) = some (strOfNums (decL x ++ S))
 | k, x, S, hx, h64, hS => by
   rw [V.liveryref01_Decimal.l0]
   by_cases h : x < 10
   · rw [if_neg (by omega), decL_lt h, Nat.mod_eq_of_lt h]
   · cases k with
     | zero => omega
     | succ k =>
       have hx2 : x / 10 < 10 ^ (k + 1) := by rw [Nat.pow_succ] at hx; omega
       have e1 : IntKind.u64.wrap (Int.tdiv (x : Int) 10) = ((x / 10 : Nat) : Int) := by rw [Int.tdiv_eq_ediv_of_nonneg (by omega), u64w _ (by omega)]; omega
       have e2 : Int.tmod ((x / 10 : Nat) : Int) 10 = ((x / 10 % 10 : Nat) : Int) := by rw [Int.tmod_eq_emod_of_nonneg (by omega)]; omega
       have e3 : IntKind.u64.wrap (((x / 10 % 10 : Nat) : Int) + 1) = ((x / 10 % 10 + 1 : Nat) : Int) := by rw [u64w _ (by omega)]; omega
       rw [if_pos (by omega), e1, e2, e3, if_pos (by omega), if_pos (by omega), if_pos (by omega), Int.toNat_natCast, Int.toNat_natCast, ext_dig _ (by omega), strOfNums_size, strOfNums_size, if_pos (by simp; omega), <- strOfNums_append]
       have ih := rdec_l0 k (x / 10) ([48 + ((x % 10 : Nat) : Int)] ++ S) hx2 (by omega) (by simp; omega)
       rw [ih, decL_ge h]
       simp
theorem rdec_f (n : Nat) (hn : n < 18446744073709551616) : V.liveryref01_Decimal.f 20 (n : Int) = some (strOfNums (decL n)) := by
 unfold V.liveryref01_Decimal.f
 have e2 : Int.tmod (n : Int) 10 = ((n % 10 : Nat) : Int) := by rw [Int.tmod_eq_emod_of_nonneg (by omega)]; omega
 have e3 : IntKind.u64.wrap (((n % 10 : Nat) : Int) + 1) = ((n % 10 + 1 : Nat) : Int) := by rw [u64w _ (by omega)]; omega
 rw [e2, e3, if_pos (by omega), if_pos (by omega), if_pos (by omega), Int.toNat_natCast, Int.toNat_natCast, ext_dig _ (by omega)]
 have := rdec_l0 19 n [] (by omega) hn (by simp)
 simpa using this
theorem digits_walk (s : ByteArray) (w : World) (hs : s.size <= 140737488351232) :
 Calls Tryz.prog 86 #[.string s] w fun e w' => e = .returned (.tuple #[.int .u64 (numS s).1, .int .i64 (numS s).2]) /\ Below w.heap.size w w' := by
 obtain ⟨U, hU⟩ : ∃ U, numS s = U := ⟨_, rfl⟩
 have HU := Lib.hid hU
 rw [hU]
 clear hU
 by_cases hsz : 1 <= s.size /\ s.size <= 20
 · have q1 : ¬ (s.size : Int) < 1 := by omega
   have q2 : ¬ (20 : Int) < (s.size : Int) := by omega
   go_enter Tryz.func86, Tryz.ntmps86
   go_wp2
   go_loopw [4] (fun v4 wr => ∃ (pos fuel : Nat) (n : Int), v4 = .int .u64 n /\ wr.heap[w.heap.size]? = some (.stringIter s pos) /\ Zz (s.size <= pos + fuel /\ numR (rv (rns s fuel pos)) n = numR (rv (runesOf s)) 0) /\ (0 <= n /\ n <= 18446744073709551615) /\ Zz (Below w.heap.size w wr)) (fun _ wr => s.size - wr.iterPos w.heap.size)
   case atStart => exact ⟨0, s.size, 0, rfl, iter_new w s, ⟨by omega, rfl⟩, by omega, ⟨below_iter w s⟩⟩
   case round =>
    obtain ⟨pos, fuel, n, rfl, hit, hR, hn, hB⟩ := hrel
    have hn0 := hn.1
    have hn1 := hn.2
    clear hn
    by_cases hp : pos < s.size
    · have hw1 := Lib.decode_width_pos s pos hp
      obtain ⟨f2, hf2, he2⟩ := rns_step s fuel pos hp hR.out.1
      have hnx := fun ty => Lib.run_next_any_at (P := Tryz.prog) wr w.heap.size s pos ty hit hp
      have hd3 := decode_le s pos
      have HI0 := Lib.iterAt_heap wr w.heap.size s pos (pos + (Utf8.decode s pos).2) hit
      have HB0 := Lib.below_iterAt hB.out (Nat.le_refl _) s (pos + (Utf8.decode s pos).2)
      have HM0 := iter_less hw1 hit hp
      generalize hd : Utf8.decode s pos = d at *
      obtain ⟨r, wd⟩ := d
      simp only at *
      have hR1 := hR.out.2
      rw [he2] at hR1
      simp only [rv, List.map_cons, numR] at hR1
      have HBI := Zz.mk HB0
      have HII := Zz.mk HI0
      have HMM : Zz (s.size - (pos + wd) < s.size - wr.iterPos w.heap.size) := ⟨by rwa [iterPos_of HI0] at HM0⟩
      have hF := Zz.mk hf2
      have Cd := fun W => c_rdigit r W hd3
      have hrd := rd_dec r
      generalize (if isd r = true then dv r else -1) = dd at *
      have cd := Lib.hid Cd
      clear hd he2 hf2 hR HI0 HB0 HM0 hB Cd
      rcases hrd with ⟨h1, h2, rfl⟩ | ⟨h1, h2⟩
      · rw [if_pos ⟨h1, h2⟩] at hR1
        have HR := Zz.mk hR1
        have t1 : ¬ (r : Int) - 48 < 0 := by omega
        have t2 : ¬ (9 : Int) < (r : Int) - 48 := by omega
        have hsb := stepN_bd n r
        clear hR1 h1 h2
        go_wp2_with (first
         | (go_at_call 128
            refine (cd.out _).mono ?_
            rintro e v1 ⟨rfl, hdr⟩
            have HI1 := Zz.mk (iter_drawn HII.out hdr)
            have HB1 := Zz.mk (below_drawn HBI.out hdr)
            clear hdr)
         | fail)
        go_roundw
        case rel => exact ⟨pos + wd, f2, stepN n r, rfl, HI1.out, ⟨hF.out, HR.out⟩, hsb, HB1⟩
        case measure => rw [iterPos_of HI1.out]; exact HMM.out
      · rw [if_neg h1] at hR1
        have hU : U = (0, 12) := by
         rw [<- HU.out]
         unfold numS
         rw [if_neg (by omega), show rv (runesOf s) = List.map (fun x => x.2.1) (runesOf s) from rfl, <- hR1]
        subst hU
        clear hR1 h1
        rcases h2 with t1 | ⟨t1, t2⟩
        · go_wp2_with (first
           | (go_at_call 128
              refine (cd.out _).mono ?_
              rintro e v1 ⟨rfl, hdr⟩
              have HB1 := Zz.mk (below_drawn HBI.out hdr)
              clear hdr)
           | fail)
          exact bodyPost_ret (v := .tuple #[.int .u64 0, .int .i64 12]) (by simp [results, Tryz.results86, go_sem]) rfl ⟨rfl, HB1.out⟩
        · go_wp2_with (first
           | (go_at_call 128
              refine (cd.out _).mono ?_
              rintro e v1 ⟨rfl, hdr⟩
              have HB1 := Zz.mk (below_drawn HBI.out hdr)
              clear hdr)
           | fail)
          exact bodyPost_ret (v := .tuple #[.int .u64 0, .int .i64 12]) (by simp [results, Tryz.results86, go_sem]) rfl ⟨rfl, HB1.out⟩
    · have hnx := fun ty => Lib.run_next_end_at (P := Tryz.prog) wr w.heap.size s pos ty hit hp
      have hnum := hR.out.2
      rw [rns_end s fuel pos hp] at hnum
      simp only [rv, List.map_nil, numR] at hnum
      have cd := Lib.hid (fun W => V.liveryref01_Decimal.calls 20 n (strOfNums (decL n.toNat)) W (by
       have := rdec_f n.toNat (by omega)
       rwa [Int.toNat_of_nonneg hn0] at this))
      have hHU := HU.out
      unfold numS at hHU
      rw [show rv (runesOf s) = List.map (fun x => x.2.1) (runesOf s) from rfl, <- hnum] at hHU
      simp only at hHU
      rw [if_neg (by omega)] at hHU
      by_cases he : strOfNums (decL n.toNat) = s
      · rw [if_pos he] at hHU
        subst hHU
        rw [he] at cd
        clear hR hnum he
        go_wp2_with (first
         | (go_at_call 115; refine (cd.out _).mono ?_; rintro e v1 ⟨rfl, hb1⟩)
         | fail)
        exact bodyPost_ret (v := .tuple #[.int .u64 n, .int .i64 0]) (by simp [results, Tryz.results86, go_sem]) rfl ⟨rfl, below_drawn hB.out hb1⟩
      · rw [if_neg he] at hHU
        subst hHU
        clear hR hnum
        have te := str_ne he
        generalize strOfNums (decL n.toNat) = D at *
        go_wp2_with (first
         | (go_at_call 115; refine (cd.out _).mono ?_; rintro e v1 ⟨rfl, hb1⟩)
         | fail)
        exact bodyPost_ret (v := .tuple #[.int .u64 0, .int .i64 12]) (by simp [results, Tryz.results86, go_sem]) rfl ⟨rfl, below_drawn hB.out hb1⟩
 · have hU : U = (0, 12) := by
    rw [<- HU.out]
    unfold numS
    rw [if_pos (by omega)]
   subst hU
   by_cases h0 : s.size < 1
   · have q1 : (s.size : Int) < 1 := by omega
     go_enter Tryz.func86, Tryz.ntmps86
     go_wp2
     exact bodyPost_ret (v := .tuple #[.int .u64 0, .int .i64 12]) (by simp [results, Tryz.results86, go_sem]) rfl ⟨rfl, Below.refl _ _⟩
   · have q1 : ¬ (s.size : Int) < 1 := by omega
     have q2 : (20 : Int) < (s.size : Int) := by omega
     go_enter Tryz.func86, Tryz.ntmps86
     go_wp2
     exact bodyPost_ret (v := .tuple #[.int .u64 0, .int .i64 12]) (by simp [results, Tryz.results86, go_sem]) rfl ⟨rfl, Below.refl _ _⟩
end Go.Proofs.YtpdinahdcedmkaaGreatDoor.Ext
