import Derived.Test.YtpdinahdcedmkaaGreatDoorMDec
import Derived.Lib.TrimUEq
import Derived.Lib.MapLaws
import Derived.Laws.Cover4
import Derived.Test.YtpdinahdcedmkaaGreatDoorMHex
/- octet.Label: the runes of a text are all plain ones, and at least one and at most 24; and what a further rune at the end of a text does to its runes. -/
namespace Go.Proofs.YtpdinahdcedmkaaGreatDoor.Ext
set_option linter.unusedVariables false
open Go.RowKit Go.Proofs.YtpdinahdcedmkaaGreatDoorW.PrintWords Go.Proofs.YtpdinahdcedmkaaGreatDoorW.PrintLast Go.Proofs.YtpdinahdcedmkaaGreatDoorW.PrintMore

def badR (r : Nat) : Prop := r < 32 ∨ (127 ≤ r ∧ r ≤ 159) ∨ r = 32 ∨ r = 160 ∨ r = 8232 ∨ r = 8233 ∨ r = 12288 ∨ r = 34 ∨ r = 92 ∨ r = 65533
instance (r : Nat) : Decidable (badR r) := by unfold badR; infer_instance
/-- none of the runes is a bad one -/
def goodL (l : List (Nat × Nat × Nat)) : Bool := l.all fun x => decide (¬ badR x.2.1)
def labelS (s : ByteArray) : Bool := goodL (runesOf s) && (decide (1 ≤ (runesOf s).length) && decide ((runesOf s).length ≤ 24))

theorem iterPos_at {w : World} {k pos : Nat} {s : ByteArray} (h : w.heap[k]? = some (.stringIter s pos)) : w.iterPos k = pos := by unfold World.iterPos; rw [h]
theorem labelS_parts (s : ByteArray) (N : Nat) (b : Bool) (hN : (runesOf s).length = N) (hb : goodL (runesOf s) = b) : labelS s = (b && (decide (1 ≤ N) && decide (N ≤ 24))) := by unfold labelS; rw [hN, hb]
set_option maxHeartbeats 4000000 in
set_option maxRecDepth 100000 in
theorem label_walk (s : ByteArray) (w : World) (hs : s.size ≤ 140737488351232) :
    Calls Tryz.prog 61 #[.string s] w fun e w' => e = .returned (.bool (labelS s)) ∧ Below w.heap.size w w' := by
  obtain ⟨U, hU⟩ : ∃ U, labelS s = U := ⟨_, rfl⟩
  have HU := Lib.hid hU
  rw [hU]
  clear hU
  have hl : (runesOf s).length ≤ s.size := by have := rns_len s s.size 0; unfold runesOf; omega
  obtain ⟨N, hN⟩ : ∃ N, (runesOf s).length = N := ⟨_, rfl⟩
  rw [hN] at hl
  have HN := Lib.hid hN
  clear hN
  go_enter Tryz.func61, Tryz.ntmps61
  go_wp2
  go_step3
  go_wp2
  go_step3
  go_wp2
  go_loopw [3] (fun v3 wr => ∃ (pos fuel n : Nat), v3 = .int .i64 n ∧ wr.heap[w.heap.size]? = some (.stringIter s pos) ∧ Aside0 (n + (rns s fuel pos).length = N ∧ s.size ≤ pos + fuel ∧ goodL (rns s fuel pos) = goodL (runesOf s)) ∧ n ≤ N ∧ Aside0 (Below w.heap.size w wr)) (fun _ wr => s.size - wr.iterPos w.heap.size)
  case atStart => exact ⟨0, s.size, 0, rfl, iter_new w s, ⟨by have := HN.out; unfold runesOf at this; omega, by omega, rfl⟩, by omega, ⟨below_iter w s⟩⟩
  case round =>
    obtain ⟨pos, fuel, n, rfl, hit, hR, hn, hB⟩ := hrel
    by_cases hp : pos < s.size
    · have hw1 := Lib.decode_width_pos s pos hp
      obtain ⟨f2, hf2, he2⟩ := rns_step s fuel pos hp hR.out.2.1
      have hnx := fun ty => Lib.run_next_any_at (P := Tryz.prog) wr w.heap.size s pos ty hit hp
      have hd3 := decode_le s pos
      have HI0 := Lib.iterAt_heap wr w.heap.size s pos (pos + (Utf8.decode s pos).2) hit
      have HB0 := Lib.below_iterAt hB.out (Nat.le_refl _) s (pos + (Utf8.decode s pos).2)
      have HM0 := iter_less hw1 hit hp
      generalize hd : Utf8.decode s pos = d at *
      obtain ⟨r, wd⟩ := d
      simp only at *
      have hR1 := hR.out
      rw [he2] at hR1
      have hR2 : goodL (runesOf s) = (decide (¬ badR r) && goodL (rns s f2 (pos + wd))) := by rw [← hR1.2.2]; simp [goodL]
      have HBI := Aside0.mk HB0
      have HII := Aside0.mk HI0
      have HMM : Aside0 (s.size - (pos + wd) < s.size - wr.iterPos w.heap.size) := ⟨by rwa [iterPos_at HI0] at HM0⟩
      have hR3 : n + 1 + (rns s f2 (pos + wd)).length = N := by have := hR1.1; rw [List.length_cons] at this; omega
      have hn1 : n + 1 ≤ N := by omega
      have HR3 := Aside0.mk hR3
      have hF := Aside0.mk hf2
      clear hd he2 hf2 hR HI0 HB0 HM0 hB hR1 hR3
      by_cases hbad : badR r
      · have hU : U = false := by
          rw [← HU.out]
          unfold labelS
          rw [hR2, decide_eq_false (not_not_intro hbad)]
          rfl
        subst hU
        clear hR2
        unfold badR at hbad
        rcases hbad with hb | hb | rfl | rfl | rfl | rfl | rfl | rfl | rfl | rfl
        · have t1 : (r : Int) < 32 := by omega
          clear hb
          go_wp2
          try rw [Exit.noGoto_ret]
          go_ret
          exact ⟨rfl, HBI.out⟩
        · have t1 : ¬ (r : Int) < 32 := by omega
          have t2 : (127 : Int) ≤ (r : Int) := by omega
          have t3 : (r : Int) ≤ 159 := by omega
          clear hb
          go_wp2
          try rw [Exit.noGoto_ret]
          go_ret
          exact ⟨rfl, HBI.out⟩
        all_goals
          go_wp2
          try rw [Exit.noGoto_ret]
          go_ret
          exact ⟨rfl, HBI.out⟩
      · have HR2 : Aside0 (goodL (rns s f2 (pos + wd)) = goodL (runesOf s)) := ⟨by rw [hR2, decide_eq_true hbad]; rfl⟩
        clear hR2
        unfold badR at hbad
        have t1 : ¬ (r : Int) < 32 := by omega
        have q1 : ¬ (r : Int) = 32 := by omega
        have q2 : ¬ (r : Int) = 160 := by omega
        have q3 : ¬ (r : Int) = 8232 := by omega
        have q4 : ¬ (r : Int) = 8233 := by omega
        have q5 : ¬ (r : Int) = 12288 := by omega
        have q6 : ¬ (r : Int) = 34 := by omega
        have q7 : ¬ (r : Int) = 92 := by omega
        have q8 : ¬ (r : Int) = 65533 := by omega
        have hc : r < 127 ∨ 159 < r := by omega
        clear hbad
        rcases hc with hc | hc
        · have t2 : ¬ (127 : Int) ≤ (r : Int) := by omega
          clear hc
          go_wp2
          go_roundw
          case rel => exact ⟨pos + wd, f2, n + 1, by go_num, HII.out, ⟨HR3.out, hF.out, HR2.out⟩, hn1, HBI⟩
          case measure => rw [iterPos_at HII.out]; exact HMM.out
        · have t2 : (127 : Int) ≤ (r : Int) := by omega
          have t3 : ¬ (r : Int) ≤ 159 := by omega
          clear hc
          go_wp2
          go_roundw
          case rel => exact ⟨pos + wd, f2, n + 1, by go_num, HII.out, ⟨HR3.out, hF.out, HR2.out⟩, hn1, HBI⟩
          case measure => rw [iterPos_at HII.out]; exact HMM.out
    · have hnx := fun ty => Lib.run_next_end_at (P := Tryz.prog) wr w.heap.size s pos ty hit hp
      have hR1 := hR.out
      rw [rns_end s fuel pos hp] at hR1
      have hg : goodL (runesOf s) = true := by rw [← hR1.2.2]; rfl
      have hnN : n = N := by have := hR1.1; simpa using this
      have hU : U = (decide (1 ≤ n) && decide (n ≤ 24)) := by rw [← HU.out, labelS_parts s N true HN.out hg, hnN]; rfl
      clear hR1 hR hg hnN
      by_cases h1 : 1 ≤ n
      · by_cases h2 : n ≤ 24
        · have t1 : (1 : Int) ≤ (n : Int) := by omega
          have t2 : (n : Int) ≤ 24 := by omega
          rw [decide_eq_true h1, decide_eq_true h2] at hU
          replace hU : U = true := hU
          subst hU
          clear h1 h2
          go_wp2
          try rw [Exit.noGoto_ret]
          go_ret
          exact ⟨rfl, hB.out⟩
        · have t1 : (1 : Int) ≤ (n : Int) := by omega
          have t2 : ¬ (n : Int) ≤ 24 := by omega
          rw [decide_eq_true h1, decide_eq_false h2] at hU
          replace hU : U = false := hU
          subst hU
          clear h1 h2
          go_wp2
          try rw [Exit.noGoto_ret]
          go_ret
          exact ⟨rfl, hB.out⟩
      · have t1 : ¬ (1 : Int) ≤ (n : Int) := by omega
        rw [decide_eq_false h1] at hU
        replace hU : U = false := hU
        subst hU
        clear h1
        go_wp2
        try rw [Exit.noGoto_ret]
        go_ret
        exact ⟨rfl, hB.out⟩
end Go.Proofs.YtpdinahdcedmkaaGreatDoor.Ext
/- liverylaw01.OctetPlain: true. -/
namespace Go.Proofs.YtpdinahdcedmkaaGreatDoor.Ext
set_option linter.unusedVariables false
open Go.RowKit Go.Proofs.YtpdinahdcedmkaaGreatDoorW.PrintWords Go.Proofs.YtpdinahdcedmkaaGreatDoorW.PrintLast Go.Proofs.YtpdinahdcedmkaaGreatDoorW.PrintMore

theorem strOfNums_bytesOf (s : ByteArray) : strOfNums (bytesOf s) = s := by
  apply ByteArray.ext
  rw [← Array.toList_inj, strOfNums_data]
  rw [bytesOf, List.map_map]
  conv => rhs; rw [← List.map_id s.data.toList]
  apply List.map_congr_left
  intro b _
  simp
theorem run_runes1 (n : Int) (W : World) : (convert 119 9 (.slice (some ⟨W.heap.size, 0, none⟩) 1 1)).run Tryz.prog (W.alloc (.cells #[.int .i32 n] 21)) = .ok (.string (Utf8.encode n)) (W.alloc (.cells #[.int .i32 n] 21)) := by
  have h := run_convert_runes (P := Tryz.prog) (W.alloc (.cells #[.int .i32 n] 21)) 119 9 21 ⟨W.heap.size, 0, none⟩ 1 1 [n] (by simp) (by kernel_rfl) (by kernel_rfl) (by kernel_rfl) (fun j hj => by
    obtain rfl : j = 0 := by simp at hj; omega
    simp [Addr.add])
  rw [h]
  have : runesBytes ([n].take 1) = Utf8.encode n := by
    simp [runesBytes]
  rw [this]
end Go.Proofs.YtpdinahdcedmkaaGreatDoor.Ext
/- What comes back, plainly: numbers in bytes, bits, digits, decimals. -/
namespace Go.Proofs.YtpdinahdcedmkaaGreatDoor.Ext
set_option linter.unusedVariables false
open Go.RowKit Go.Proofs.YtpdinahdcedmkaaGreatDoorW.PrintWords Go.Proofs.YtpdinahdcedmkaaGreatDoorW.PrintLast Go.Proofs.YtpdinahdcedmkaaGreatDoorW.PrintMore

def Low (l : List Int) : Prop := ∀ x ∈ l, 0 ≤ x ∧ x < 128
theorem Low.bytes {l : List Int} (h : Low l) : Bytes l := fun x hx => by have := h x hx; omega
/-! ### decimals -/
theorem decL_len : ∀ (k n : Nat), n < 10 ^ (k + 1) → (decL n).length ≤ k + 1
  | 0, n, h => by rw [decL_lt (by simpa using h)]; simp
  | k + 1, n, h => by
    by_cases h1 : n < 10
    · rw [decL_lt h1]; simp
    · rw [decL_ge h1, List.length_append]
      have := decL_len k (n / 10) (by rw [Nat.pow_succ] at h; omega)
      simp
      omega
end Go.Proofs.YtpdinahdcedmkaaGreatDoor.Ext
