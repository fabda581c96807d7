/- Law ScriptJoins: the words of a line, joined by single blanks, are the line; each is a word of its own; none is empty; for any line. -/
import Derived.Test.YtpdinahdcedmkaaDoorSLawWords
namespace Go.Proofs.YtpdinahdcedmkaaDoor.Ext
open Go.Proofs.YtpdinahdcedmkaaDoor.P
set_option linter.unusedVariables false
set_option linter.unusedSimpArgs false
open Go.RowKit Go.Proofs.YtpdinahdcedmkaaDoorW.PrintWords Go.Proofs.YtpdinahdcedmkaaDoorW.PrintLast Go.Proofs.YtpdinahdcedmkaaDoorW.PrintMore

theorem strB_data (l : List UInt8) : (strB l).data.toList = l := by simp [strB]
theorem strB_size (l : List UInt8) : (strB l).size = l.length := by simp [strB, ByteArray.size]
theorem strB_self (s : ByteArray) : strB s.data.toList = s := by simp [strB]
theorem strB_app (a b : List UInt8) : strB a ++ strB b = strB (a ++ b) := by
  apply ByteArray.ext
  simp [strB, ByteArray.data_append]
theorem runes_ne (s : ByteArray) (h : 0 < s.size) : runesOf s ≠ [] := by
  unfold runesOf
  obtain ⟨k, hk⟩ : ∃ k, s.size = k + 1 := ⟨s.size - 1, by omega⟩
  rw [hk]
  unfold rns
  rw [if_pos h]
  simp
theorem joins_l0 (x0 : ByteArray) (ws : List (List UInt8)) (hs : x0.size ≤ 5000) (hw : ∀ w ∈ ws, wl w [] false false false = some [w] ∧ w ≠ []) (hn : ws ≠ []) :
    ∀ (d i k : Nat) (p : List UInt8), i ≤ ws.length → ws.length - i ≤ d → 2 * d < k → ws.length ≤ 6000 →
      (ws.drop i = [] → p = x0.data.toList) → (ws.drop i ≠ [] → x0.data.toList = p ++ (if i = 0 then [] else [32]) ++ joinW (ws.drop i)) →
      liverylaw27_ScriptJoins.l0 k x0 (ws.map strB) (strB p) (ws.map strB) ((ws.map strB).length : Int) (i : Int) = some true
  | d, i, 0, p, _, _, h, _, _, _ => by omega
  | d, i, k + 1, p, hi, hd, hk, hl, h0, h1 => by
    have hz : x0.data.toList.length = x0.size := by rw [Array.length_toList]; rfl
    simp only [liverylaw27_ScriptJoins.l0]
    rw [List.length_map]
    by_cases h : i < ws.length
    · have e1 := List.drop_eq_getElem_cons h
      have e2 := h1 (fun hh => by rw [e1] at hh; cases hh)
      have hwi := hw ws[i] (List.getElem_mem h)
      have er : rdOf ByteArray.empty (ws.map strB) (i : Int) = strB ws[i] := by
        unfold rdOf
        rw [Int.toNat_natCast, List.getD_eq_getElem?_getD, List.getElem?_map, List.getElem?_eq_getElem h]
        rfl
      obtain ⟨k, rfl⟩ : ∃ m, k = m + 1 := ⟨k - 1, by omega⟩
      have J : ∀ (q : List UInt8), q = p ++ (if i = 0 then [] else [32]) → liverylaw27_ScriptJoins.j2 (k + 1) x0 (ws.map strB) (strB q) (strB ws[i]) (ws.map strB) (ws.length : Int) (i : Int) = some true := by
        intro q hq
        have hlen := congrArg List.length e2
        rw [← hq, e1, List.length_append, hz] at hlen
        have hjl : (joinW (ws[i] :: List.drop (i + 1) ws)).length ≥ ws[i].length := by
          cases List.drop (i + 1) ws with
          | nil => exact Nat.le_refl _
          | cons a t => simp only [joinW, List.length_append]; omega
        have hwl : wordsS (strB ws[i]) = some [strB ws[i]] := by
          unfold wordsS
          rw [strB_data, hwi.1]
          rfl
        have hpos : 0 < ws[i].length := List.length_pos_iff.2 hwi.2
        simp only [liverylaw27_ScriptJoins.j2]
        rw [if_pos (by rw [strB_size, strB_size]; omega)]
        unfold script_Words.f
        rw [if_pos (by rw [strB_size]; omega), hwl]
        simp only [Option.bind_some]
        rw [if_pos trivial, if_pos (show (([strB ws[i]] : List ByteArray).length : Int) = 1 from rfl), if_pos (show (0 : Int) < (([strB ws[i]] : List ByteArray).length : Int) by simp), if_pos (show (rdOf ByteArray.empty [strB ws[i]] 0).toList = (strB ws[i]).toList from rfl)]
        unfold liveryref01_Runes.f
        rw [if_pos (by rw [strB_size]; omega)]
        simp only [Option.bind_some]
        have hr : (runeL (runesOf (strB ws[i]))).length ≠ 0 := by
          have := runes_ne (strB ws[i]) (by rw [strB_size]; exact hpos)
          unfold runeL
          rw [List.length_map]
          exact fun h => this (List.length_eq_zero_iff.1 h)
        rw [if_neg (by omega), strB_app, wr64 (by omega) (by omega), show ((i : Int) + 1) = ((i + 1 : Nat) : Int) by omega]
        have ih := joins_l0 x0 ws hs hw hn (d - 1) (i + 1) k (q ++ ws[i]) (by omega) (by omega) (by omega) hl ?_ ?_
        · rw [List.length_map] at ih
          exact ih
        · intro hnil
          rw [e2, e1, hnil, ← hq]
          rfl
        · intro hne
          rw [e2, e1, ← hq, if_neg (by omega)]
          cases hc : List.drop (i + 1) ws with
          | nil => exact absurd hc hne
          | cons a t => simp [joinW]
      rw [if_pos (by omega), if_pos (by omega), if_pos (by omega), er]
      by_cases hi0 : i = 0
      · rw [if_neg (by omega)]
        exact J p (by simp [hi0])
      · have hlen := congrArg List.length e2
        rw [List.length_append, List.length_append, hz] at hlen
        rw [if_pos (by omega), if_pos (by rw [strB_size]; omega)]
        rw [show (⟨#[32]⟩ : ByteArray) = strB [32] from rfl, strB_app]
        exact J _ (by simp [hi0])
    · rw [if_neg (by omega)]
      have e := h0 (List.drop_of_length_le (by omega))
      have hp : 0 < ws.length := List.length_pos_iff.2 hn
      rw [e, strB_self, if_pos rfl]
      congr 1
      exact decide_eq_true (by omega)
theorem joins_true (a0 : ByteArray) : liverylaw27_ScriptJoins.f 60002 a0 = some true := by
  unfold liverylaw27_ScriptJoins.f
  simp only [liverylaw27_live.f, Option.bind_some, if_true]
  simp only [liverylaw27_ScriptJoins.j0]
  by_cases hz : (a0.size : Int) > 5000
  · rw [decide_eq_true hz, if_pos rfl]; rfl
  rw [decide_eq_false hz, if_neg (by simp)]
  have hs : a0.size ≤ 5000 := by omega
  unfold script_Words.f
  rw [if_pos (by omega)]
  simp only [Option.bind_some, wordsS]
  cases hw : wl a0.data.toList [] false false false with
  | none => rfl
  | some ws =>
    have hc : List.length ws ≤ a0.size + 1 := wl_count _ _ _ _ _ _ hw
    obtain ⟨hj, hne, hea⟩ := wl_words hw
    simp only [Option.map_some]
    rw [if_pos trivial]
    exact joins_l0 a0 ws hs hea hne 6000 0 60001 [] (by omega) (by omega) (by omega) (by omega) (fun h => absurd h hne) (fun _ => by simp [hj])
theorem law_Joins (a0 : ByteArray) (w : World) (hT : Lib.Utf8Tabs 0 1 w) :
    Calls Tryd.prog 6 #[.string a0] w fun e w' => e = .returned (.bool true) ∧ Below w.heap.size w w' :=
  liverylaw27_ScriptJoins.calls 60002 a0 true w (joins_true a0) ⟨hT⟩
end Go.Proofs.YtpdinahdcedmkaaDoor.Ext
