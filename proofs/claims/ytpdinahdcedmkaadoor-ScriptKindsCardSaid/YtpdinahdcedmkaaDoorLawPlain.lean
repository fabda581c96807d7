/- liverylaw01.OctetPlain: true. -/
import Derived.Test.YtpdinahdcedmkaaDoorHexes
import Derived.Test.YtpdinahdcedmkaaDoorLabel
namespace Go.Proofs.YtpdinahdcedmkaaDoor.Ext
set_option linter.unusedVariables false
open Go.RowKit Go.Proofs.YtpdinahdcedmkaaDoorW.PrintWords Go.Proofs.YtpdinahdcedmkaaDoorW.PrintLast Go.Proofs.YtpdinahdcedmkaaDoorW.PrintMore

theorem bytesOf_append (a b : ByteArray) : bytesOf (a ++ b) = bytesOf a ++ bytesOf b := by simp [bytesOf, ByteArray.data_append]
theorem extract_split (s : ByteArray) (i j : Nat) (h : i ≤ j) (hj : j ≤ s.size) : s.extract i j ++ s.extract j s.size = s.extract i s.size := by
  rw [ByteArray.extract_append_extract, Nat.min_eq_left h, Nat.max_eq_right hj]
theorem quoteF_good (s : ByteArray) : ∀ (f pos : Nat), s.size ≤ pos + f → goodL (rns s f pos) = true → quoteF s (rns s f pos) = bytesOf (s.extract pos s.size)
  | f, pos, hf, hg => by
    by_cases h : pos < s.size
    · have hw := Lib.decode_width_pos s pos h
      have hwl := width_le' s pos h
      obtain ⟨f', rfl⟩ : ∃ f', f = f' + 1 := ⟨f - 1, by omega⟩
      simp only [rns, if_pos h] at hg ⊢
      simp only [goodL, List.all_cons, Bool.and_eq_true, decide_eq_true_eq] at hg
      have ih := quoteF_good s f' (pos + (Utf8.decode s pos).2) (by omega) hg.2
      have hb := hg.1
      unfold badR at hb
      unfold quoteF at ih ⊢
      rw [List.flatMap_cons, ih]
      have e : quoteP s (pos, (Utf8.decode s pos).1, (Utf8.decode s pos).2) = bytesOf (s.extract pos (pos + (Utf8.decode s pos).2)) := by
        unfold quoteP
        simp only
        rw [if_neg (by omega), if_neg (by omega)]
      rw [e, ← bytesOf_append, extract_split s _ _ (by omega) hwl]
    · rw [rns_end s f pos h]
      have : (s.extract pos s.size).size = 0 := by rw [ByteArray.size_extract]; omega
      have e : s.extract pos s.size = ByteArray.empty := by
        apply ByteArray.ext
        apply Array.eq_empty_of_size_eq_zero
        exact this
      rw [e]
      rfl
theorem strOfNums_bytesOf (s : ByteArray) : strOfNums (bytesOf s) = s := by
  apply ByteArray.ext
  rw [← Array.toList_inj, strOfNums_data]
  rw [bytesOf, List.map_map]
  conv => rhs; rw [← List.map_id s.data.toList]
  apply List.map_congr_left
  intro b _
  simp
theorem quote_good (s : ByteArray) (hg : goodL (runesOf s) = true) : quoteS s = (⟨#[34]⟩ ++ s) ++ ⟨#[34]⟩ := by
  unfold quoteS
  unfold runesOf at hg ⊢
  rw [quoteF_good s s.size 0 (by omega) hg]
  rw [strOfNums_append, strOfNums_append]
  rw [show s.extract 0 s.size = s by simp]
  rw [strOfNums_bytesOf]
  rfl
theorem run_runes1 (n : Int) (W : World) : (convert 51 9 (.slice (some ⟨W.heap.size, 0, none⟩) 1 1)).run Tryd.prog (W.alloc (.cells #[.int .i32 n] 21)) = .ok (.string (Utf8.encode n)) (W.alloc (.cells #[.int .i32 n] 21)) := by
  have h := run_convert_runes (P := Tryd.prog) (W.alloc (.cells #[.int .i32 n] 21)) 51 9 21 ⟨W.heap.size, 0, none⟩ 1 1 [n] (by simp) (by kernel_rfl) (by kernel_rfl) (by kernel_rfl) (fun j hj => by
    obtain rfl : j = 0 := by simp at hj; omega
    simp [Addr.add])
  rw [h]
  have : runesBytes ([n].take 1) = Utf8.encode n := by
    simp [runesBytes]
  rw [this]
end Go.Proofs.YtpdinahdcedmkaaDoor.Ext
