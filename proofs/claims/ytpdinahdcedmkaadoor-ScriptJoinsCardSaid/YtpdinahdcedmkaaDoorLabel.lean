/- octet.Label: the runes of a text are all plain ones, and at least one and at most 24; and what a further rune at the end of a text does to its runes. -/
import Derived.Test.YtpdinahdcedmkaaDoorRunes
import Derived.Lib.TrimUEq
import Derived.Lib.MapLaws
import Derived.Laws.Cover4
namespace Go.Proofs.YtpdinahdcedmkaaDoor.Ext
set_option linter.unusedVariables false
open Go.RowKit Go.Proofs.YtpdinahdcedmkaaDoorW.PrintWords Go.Proofs.YtpdinahdcedmkaaDoorW.PrintLast Go.Proofs.YtpdinahdcedmkaaDoorW.PrintMore

def badR (r : Nat) : Prop := r < 32 ∨ (127 ≤ r ∧ r ≤ 159) ∨ r = 32 ∨ r = 160 ∨ r = 8232 ∨ r = 8233 ∨ r = 12288 ∨ r = 34 ∨ r = 92 ∨ r = 65533
instance (r : Nat) : Decidable (badR r) := by unfold badR; infer_instance
/-- none of the runes is a bad one -/
def goodL (l : List (Nat × Nat × Nat)) : Bool := l.all fun x => decide (¬ badR x.2.1)
def labelS (s : ByteArray) : Bool := goodL (runesOf s) && (decide (1 ≤ (runesOf s).length) && decide ((runesOf s).length ≤ 24))

/-! ### what a decoded rune depends on -/
theorem getD_app (l t : List UInt8) (i : Nat) (h : i < l.length) : (l ++ t).getD i 0 = l.getD i 0 := by
  simp [List.getD_eq_getElem?_getD, List.getElem?_append_left h]
theorem decodeN_more {n m b0 b1 b2 b3 c1 c2 c3 : Nat} (hn : 1 ≤ n) (h1 : 1 < n → c1 = b1) (h2 : 2 < n → c2 = b2) (h3 : 3 < n → c3 = b3) (hg : (Lib.decodeN n b0 b1 b2 b3).1 ≠ 65533) :
    Lib.decodeN (n + m) b0 c1 c2 c3 = Lib.decodeN n b0 b1 b2 b3 := by
  rcases Lib.decodeN_shape n b0 b1 b2 b3 with ⟨c, e⟩ | ⟨k1, k2, k3, cv, e⟩ | ⟨k1, k2, k3, k4, cv, cs, e⟩ | ⟨k1, k2, k3, k4, k5, cv, cw, e⟩ | e
  · rw [e]; unfold Lib.decodeN; rw [if_pos c]
  · rw [e, h1 k2]; unfold Lib.decodeN
    rw [if_neg (by omega), if_pos (by omega), if_pos (by omega)]
  · rw [e, h1 (by omega), h2 (by omega)]; unfold Lib.decodeN
    rw [if_neg (by omega), if_neg (by omega), if_pos (by omega), if_pos (by omega)]
  · rw [e, h1 (by omega), h2 (by omega), h3 (by omega)]; unfold Lib.decodeN
    rw [if_neg (by omega), if_neg (by omega), if_neg (by omega), if_pos (by omega), if_pos (by omega)]
  · rw [e] at hg; exact absurd rfl hg
theorem decodeL_more (l t : List UInt8) (hne : l ≠ []) (hg : (Lib.decodeL l).1 ≠ 65533) : Lib.decodeL (l ++ t) = Lib.decodeL l := by
  rw [Lib.decodeL_N] at hg
  rw [Lib.decodeL_N, Lib.decodeL_N l, List.length_append]
  have hl : 0 < l.length := List.length_pos_iff.2 hne
  rw [getD_app l t 0 hl]
  exact decodeN_more hl (fun h => by rw [getD_app l t 1 h]) (fun h => by rw [getD_app l t 2 h]) (fun h => by rw [getD_app l t 3 h]) hg
theorem decode_more (s t : ByteArray) (pos : Nat) (h : pos < s.size) (hg : (Utf8.decode s pos).1 ≠ 65533) : Utf8.decode (s ++ t) pos = Utf8.decode s pos := by
  rw [← Lib.decodeL_drop s pos] at hg
  rw [← Lib.decodeL_drop s pos, ← Lib.decodeL_drop (s ++ t) pos]
  have e : (s ++ t).data.toList.drop pos = s.data.toList.drop pos ++ t.data.toList := by
    rw [ByteArray.data_append, Array.toList_append, List.drop_append_of_le_length]
    simp only [Array.length_toList]
    exact Nat.le_of_lt h
  rw [e]
  refine decodeL_more _ _ ?_ hg
  intro h0
  have := congrArg List.length h0
  simp only [List.length_drop, Array.length_toList, List.length_nil] at this
  have : s.data.size = s.size := rfl
  omega
theorem decode_end (s t : ByteArray) : Utf8.decode (s ++ t) s.size = Utf8.decode t 0 := by
  rw [← Lib.decodeL_drop t 0, ← Lib.decodeL_drop (s ++ t) s.size]
  congr 1
  rw [ByteArray.data_append, Array.toList_append, List.drop_append_of_le_length (by simp only [Array.length_toList]; exact Nat.le_refl _)]
  rw [show s.size = s.data.toList.length by simp only [Array.length_toList]; rfl, List.drop_length]
  simp

theorem width_le' (s : ByteArray) (pos : Nat) (h : pos < s.size) : pos + (Utf8.decode s pos).2 ≤ s.size := by
  have hne : s.data.toList.drop pos ≠ [] := by
    intro h0
    have := congrArg List.length h0
    simp only [List.length_drop, Array.length_toList, List.length_nil] at this
    have : s.data.size = s.size := rfl
    omega
  have := Lib.decodeL_le (s.data.toList.drop pos) hne
  rw [Lib.decodeL_drop s pos, List.length_drop, Array.length_toList] at this
  have : s.data.size = s.size := rfl
  omega
/-- the runes from a place on are the same ones at any fuel that is enough -/
theorem rns_fuel (s : ByteArray) : ∀ (f g pos : Nat), s.size ≤ pos + f → s.size ≤ pos + g → rns s f pos = rns s g pos
  | 0, g, pos, hf, hg => by rw [rns_end s g pos (by omega)]; rfl
  | f + 1, g, pos, hf, hg => by
    by_cases h : pos < s.size
    · have hw := Lib.decode_width_pos s pos h
      obtain ⟨g', rfl⟩ : ∃ g', g = g' + 1 := ⟨g - 1, by omega⟩
      simp only [rns, if_pos h]
      rw [rns_fuel s f g' _ (by omega) (by omega)]
    · rw [rns_end s _ pos h, rns_end s _ pos h]
/-- the runes of a longer text, where those of the shorter one are good -/
theorem rns_more (s t : ByteArray) : ∀ (f g pos : Nat), pos ≤ s.size → s.size ≤ pos + f → (s ++ t).size ≤ pos + g → goodL (rns s f pos) = true →
    ∃ k, (s ++ t).size ≤ s.size + k ∧ rns (s ++ t) g pos = rns s f pos ++ rns (s ++ t) k s.size
  | f, g, pos, hp, hf, hg, hgood => by
    by_cases h : pos < s.size
    · have hw := Lib.decode_width_pos s pos h
      have hwl := width_le' s pos h
      obtain ⟨f', rfl⟩ : ∃ f', f = f' + 1 := ⟨f - 1, by omega⟩
      have hsz : (s ++ t).size = s.size + t.size := ByteArray.size_append
      obtain ⟨g', rfl⟩ : ∃ g', g = g' + 1 := ⟨g - 1, by omega⟩
      simp only [rns, if_pos h] at hgood ⊢
      simp only [goodL, List.all_cons, Bool.and_eq_true, decide_eq_true_eq] at hgood
      have hd := decode_more s t pos h (by intro e; exact hgood.1 (by unfold badR; omega))
      rw [if_pos (by omega), hd]
      obtain ⟨k, hk, e⟩ := rns_more s t f' g' (pos + (Utf8.decode s pos).2) hwl (by omega) (by omega) hgood.2
      exact ⟨k, hk, by rw [e]; rfl⟩
    · obtain rfl : pos = s.size := by omega
      refine ⟨g, hg, ?_⟩
      rw [rns_end s f _ h]
      rfl
theorem runes_more (s t : ByteArray) (hg : goodL (runesOf s) = true) : ∃ k, (s ++ t).size ≤ s.size + k ∧ runesOf (s ++ t) = runesOf s ++ rns (s ++ t) k s.size :=
  rns_more s t s.size (s ++ t).size 0 (by omega) (by omega) (by omega) hg
/-- one rune more -/
theorem runes_one (s t : ByteArray) (hg : goodL (runesOf s) = true) (h1 : 1 ≤ t.size) (ht : (Utf8.decode t 0).2 = t.size) : runesOf (s ++ t) = runesOf s ++ [(s.size, (Utf8.decode t 0).1, t.size)] := by
  obtain ⟨k, hk, e⟩ := runes_more s t hg
  have hsz : (s ++ t).size = s.size + t.size := ByteArray.size_append
  obtain ⟨k', rfl⟩ : ∃ k', k = k' + 1 := ⟨k - 1, by omega⟩
  rw [e]
  congr 1
  simp only [rns]
  rw [if_pos (by omega), decode_end, ht, rns_end _ _ _ (by omega)]

set_option maxHeartbeats 1000000 in
theorem encode_one (r : Int) : (Utf8.decode (Utf8.encode r) 0).2 = (Utf8.encode r).size ∧ 1 ≤ (Utf8.encode r).size ∧ (Utf8.encode r).size ≤ 4 := by
  refine ⟨?_, ?_, encode_size_le r⟩
  · have hc : ∃ c : Nat, (if Utf8.valid r then r.toNat else Utf8.runeError) = c ∧ (c < 55296 ∨ (57344 ≤ c ∧ c ≤ 1114111)) := by
      refine ⟨_, rfl, ?_⟩
      unfold Utf8.valid Utf8.runeError
      split
      · rename_i h; simp only [Bool.or_eq_true, Bool.and_eq_true, decide_eq_true_eq] at h; omega
      · omega
    obtain ⟨c, hc, hv⟩ := hc
    unfold Utf8.encode
    simp only [hc]
    rw [Lib.decode_at]
    split
    · rename_i h
      simp only [ByteArray.size, ByteArray.get!, List.size_toArray, List.length_cons, List.length_nil]
      simp [Lib.decodeN]
      rw [if_pos (by omega)]
    · split
      · rename_i h0 h
        simp only [ByteArray.size, ByteArray.get!, List.size_toArray, List.length_cons, List.length_nil]
        simp [Lib.decodeN]
        rw [if_neg (by omega), if_pos (by omega), if_pos (by omega)]
      · split
        · rename_i h0 h1 h
          simp only [ByteArray.size, ByteArray.get!, List.size_toArray, List.length_cons, List.length_nil]
          simp [Lib.decodeN]
          rw [if_neg (by omega), if_neg (by omega), if_pos (by omega), if_pos (by omega)]
        · rename_i h0 h1 h2
          simp only [ByteArray.size, ByteArray.get!, List.size_toArray, List.length_cons, List.length_nil]
          simp [Lib.decodeN]
          rw [if_neg (by omega), if_neg (by omega), if_neg (by omega), if_pos (by omega), if_pos (by omega)]
  · unfold Utf8.encode
    simp only
    repeat' split
    all_goals simp [ByteArray.size]
theorem goodL_app (a b : List (Nat × Nat × Nat)) : goodL (a ++ b) = (goodL a && goodL b) := by simp [goodL]

/-- a label with a rune more -/
theorem label_more (s : ByteArray) (r : Int) (h : labelS s = true) : (runesOf (s ++ Utf8.encode r)).length = (runesOf s).length + 1 ∧ ((runesOf s).length < 24 ∨ labelS (s ++ Utf8.encode r) = false) := by
  unfold labelS at h
  simp only [Bool.and_eq_true, decide_eq_true_eq] at h
  obtain ⟨h1, h2, h3⟩ := encode_one r
  have e := runes_one s (Utf8.encode r) h.1 h2 h1
  have hl : (runesOf (s ++ Utf8.encode r)).length = (runesOf s).length + 1 := by rw [e]; simp
  refine ⟨hl, ?_⟩
  by_cases hk : (runesOf s).length < 24
  · exact .inl hk
  · right
    unfold labelS
    rw [hl]
    simp
    omega
theorem label_blank (s : ByteArray) (h : labelS s = true) : labelS (s ++ ⟨#[32]⟩) = false := by
  unfold labelS at h
  simp only [Bool.and_eq_true, decide_eq_true_eq] at h
  have hd : Utf8.decode ⟨#[32]⟩ 0 = (32, 1) := by decide +kernel
  have e := runes_one s ⟨#[32]⟩ h.1 (by decide) (by rw [hd]; rfl)
  unfold labelS
  rw [e, goodL_app, hd]
  have : goodL [(s.size, (32, 1).1, (⟨#[32]⟩ : ByteArray).size)] = false := by simp [goodL, badR]
  rw [this]
  simp

theorem iterPos_at {w : World} {k pos : Nat} {s : ByteArray} (h : w.heap[k]? = some (.stringIter s pos)) : w.iterPos k = pos := by unfold World.iterPos; rw [h]
theorem labelS_parts (s : ByteArray) (N : Nat) (b : Bool) (hN : (runesOf s).length = N) (hb : goodL (runesOf s) = b) : labelS s = (b && (decide (1 ≤ N) && decide (N ≤ 24))) := by unfold labelS; rw [hN, hb]
set_option maxHeartbeats 4000000 in
set_option maxRecDepth 100000 in
theorem label_walk (s : ByteArray) (w : World) (hs : s.size ≤ 140737488351232) :
    Calls Tryd.prog 32 #[.string s] w fun e w' => e = .returned (.bool (labelS s)) ∧ Below w.heap.size w w' := by
  obtain ⟨U, hU⟩ : ∃ U, labelS s = U := ⟨_, rfl⟩
  have HU := Lib.hid hU
  rw [hU]
  clear hU
  have hl : (runesOf s).length ≤ s.size := by have := rns_len s s.size 0; unfold runesOf; omega
  obtain ⟨N, hN⟩ : ∃ N, (runesOf s).length = N := ⟨_, rfl⟩
  rw [hN] at hl
  have HN := Lib.hid hN
  clear hN
  go_enter Tryd.func32, Tryd.ntmps32
  go_wp2
  go_step3
  go_wp2
  go_step3
  go_wp2
  go_loopw [3] (fun v3 wr => ∃ (pos fuel n : Nat), v3 = .int .i64 n ∧ wr.heap[w.heap.size]? = some (.stringIter s pos) ∧ Aside0 (n + (rns s fuel pos).length = N ∧ s.size ≤ pos + fuel ∧ goodL (rns s fuel pos) = goodL (runesOf s)) ∧ n ≤ N ∧ Aside0 (Below w.heap.size w wr)) (fun _ wr => s.size - wr.iterPos w.heap.size)
  case atStart => exact ⟨0, s.size, 0, rfl, iter_new w s, ⟨by have := HN.out; unfold runesOf at this; omega, by omega, rfl⟩, by omega, ⟨below_iter w s⟩⟩
  case round =>
    obtain ⟨pos, fuel, n, rfl, hit, hR, hn, hB⟩ := hrel
    by_cases hp : pos < s.size
    · have hw1 := Lib.decode_width_pos s pos hp
      obtain ⟨f2, hf2, he2⟩ := rns_step s fuel pos hp hR.out.2.1
      have hnx := fun ty => Lib.run_next_any_at (P := Tryd.prog) wr w.heap.size s pos ty hit hp
      have hd3 := decode_le s pos
      have HI0 := Lib.iterAt_heap wr w.heap.size s pos (pos + (Utf8.decode s pos).2) hit
      have HB0 := Lib.below_iterAt hB.out (Nat.le_refl _) s (pos + (Utf8.decode s pos).2)
      have HM0 := iter_less hw1 hit hp
      generalize hd : Utf8.decode s pos = d at *
      obtain ⟨r, wd⟩ := d
      simp only at *
      have hR1 := hR.out
      rw [he2] at hR1
      have hR2 : goodL (runesOf s) = (decide (¬ badR r) && goodL (rns s f2 (pos + wd))) := by rw [← hR1.2.2]; simp [goodL]
      have HBI := Aside0.mk HB0
      have HII := Aside0.mk HI0
      have HMM : Aside0 (s.size - (pos + wd) < s.size - wr.iterPos w.heap.size) := ⟨by rwa [iterPos_at HI0] at HM0⟩
      have hR3 : n + 1 + (rns s f2 (pos + wd)).length = N := by have := hR1.1; rw [List.length_cons] at this; omega
      have hn1 : n + 1 ≤ N := by omega
      have HR3 := Aside0.mk hR3
      have hF := Aside0.mk hf2
      clear hd he2 hf2 hR HI0 HB0 HM0 hB hR1 hR3
      by_cases hbad : badR r
      · have hU : U = false := by
          rw [← HU.out]
          unfold labelS
          rw [hR2, decide_eq_false (not_not_intro hbad)]
          rfl
        subst hU
        clear hR2
        unfold badR at hbad
        rcases hbad with hb | hb | rfl | rfl | rfl | rfl | rfl | rfl | rfl | rfl
        · have t1 : (r : Int) < 32 := by omega
          clear hb
          go_wp2
          try rw [Exit.noGoto_ret]
          go_ret
          exact ⟨rfl, HBI.out⟩
        · have t1 : ¬ (r : Int) < 32 := by omega
          have t2 : (127 : Int) ≤ (r : Int) := by omega
          have t3 : (r : Int) ≤ 159 := by omega
          clear hb
          go_wp2
          try rw [Exit.noGoto_ret]
          go_ret
          exact ⟨rfl, HBI.out⟩
        all_goals
          go_wp2
          try rw [Exit.noGoto_ret]
          go_ret
          exact ⟨rfl, HBI.out⟩
      · have HR2 : Aside0 (goodL (rns s f2 (pos + wd)) = goodL (runesOf s)) := ⟨by rw [hR2, decide_eq_true hbad]; rfl⟩
        clear hR2
        unfold badR at hbad
        have t1 : ¬ (r : Int) < 32 := by omega
        have q1 : ¬ (r : Int) = 32 := by omega
        have q2 : ¬ (r : Int) = 160 := by omega
        have q3 : ¬ (r : Int) = 8232 := by omega
        have q4 : ¬ (r : Int) = 8233 := by omega
        have q5 : ¬ (r : Int) = 12288 := by omega
        have q6 : ¬ (r : Int) = 34 := by omega
        have q7 : ¬ (r : Int) = 92 := by omega
        have q8 : ¬ (r : Int) = 65533 := by omega
        have hc : r < 127 ∨ 159 < r := by omega
        clear hbad
        rcases hc with hc | hc
        · have t2 : ¬ (127 : Int) ≤ (r : Int) := by omega
          clear hc
          go_wp2
          go_roundw
          case rel => exact ⟨pos + wd, f2, n + 1, by go_num, HII.out, ⟨HR3.out, hF.out, HR2.out⟩, hn1, HBI⟩
          case measure => rw [iterPos_at HII.out]; exact HMM.out
        · have t2 : (127 : Int) ≤ (r : Int) := by omega
          have t3 : ¬ (r : Int) ≤ 159 := by omega
          clear hc
          go_wp2
          go_roundw
          case rel => exact ⟨pos + wd, f2, n + 1, by go_num, HII.out, ⟨HR3.out, hF.out, HR2.out⟩, hn1, HBI⟩
          case measure => rw [iterPos_at HII.out]; exact HMM.out
    · have hnx := fun ty => Lib.run_next_end_at (P := Tryd.prog) wr w.heap.size s pos ty hit hp
      have hR1 := hR.out
      rw [rns_end s fuel pos hp] at hR1
      have hg : goodL (runesOf s) = true := by rw [← hR1.2.2]; rfl
      have hnN : n = N := by have := hR1.1; simpa using this
      have hU : U = (decide (1 ≤ n) && decide (n ≤ 24)) := by rw [← HU.out, labelS_parts s N true HN.out hg, hnN]; rfl
      clear hR1 hR hg hnN
      by_cases h1 : 1 ≤ n
      · by_cases h2 : n ≤ 24
        · have t1 : (1 : Int) ≤ (n : Int) := by omega
          have t2 : (n : Int) ≤ 24 := by omega
          rw [decide_eq_true h1, decide_eq_true h2] at hU
          replace hU : U = true := hU
          subst hU
          clear h1 h2
          go_wp2
          try rw [Exit.noGoto_ret]
          go_ret
          exact ⟨rfl, hB.out⟩
        · have t1 : (1 : Int) ≤ (n : Int) := by omega
          have t2 : ¬ (n : Int) ≤ 24 := by omega
          rw [decide_eq_true h1, decide_eq_false h2] at hU
          replace hU : U = false := hU
          subst hU
          clear h1 h2
          go_wp2
          try rw [Exit.noGoto_ret]
          go_ret
          exact ⟨rfl, hB.out⟩
      · have t1 : ¬ (1 : Int) ≤ (n : Int) := by omega
        rw [decide_eq_false h1] at hU
        replace hU : U = false := hU
        subst hU
        clear h1
        go_wp2
        try rw [Exit.noGoto_ret]
        go_ret
        exact ⟨rfl, hB.out⟩
end Go.Proofs.YtpdinahdcedmkaaDoor.Ext
