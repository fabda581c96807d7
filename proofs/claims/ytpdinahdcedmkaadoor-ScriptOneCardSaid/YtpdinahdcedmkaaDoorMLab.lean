import Derived.Test.YtpdinahdcedmkaaDoorMDec
import Derived.Lib.TrimUEq
import Derived.Lib.MapLaws
import Derived.Laws.Cover4
import Derived.Test.YtpdinahdcedmkaaDoorMHex
/- octet.Label: the runes of a text are all plain ones, and at least one and at most 24; and what a further rune at the end of a text does to its runes. -/
namespace Go.Proofs.YtpdinahdcedmkaaDoor.Ext
set_option linter.unusedVariables false
open Go.RowKit Go.Proofs.YtpdinahdcedmkaaDoorW.PrintWords Go.Proofs.YtpdinahdcedmkaaDoorW.PrintLast Go.Proofs.YtpdinahdcedmkaaDoorW.PrintMore

def badR (r : Nat) : Prop := r < 32 ∨ (127 ≤ r ∧ r ≤ 159) ∨ r = 32 ∨ r = 160 ∨ r = 8232 ∨ r = 8233 ∨ r = 12288 ∨ r = 34 ∨ r = 92 ∨ r = 65533
instance (r : Nat) : Decidable (badR r) := by unfold badR; infer_instance
/-- none of the runes is a bad one -/
def goodL (l : List (Nat × Nat × Nat)) : Bool := l.all fun x => decide (¬ badR x.2.1)
def labelS (s : ByteArray) : Bool := goodL (runesOf s) && (decide (1 ≤ (runesOf s).length) && decide ((runesOf s).length ≤ 24))

theorem width_le' (s : ByteArray) (pos : Nat) (h : pos < s.size) : pos + (Utf8.decode s pos).2 ≤ s.size := by
  have hne : s.data.toList.drop pos ≠ [] := by
    intro h0
    have := congrArg List.length h0
    simp only [List.length_drop, Array.length_toList, List.length_nil] at this
    have : s.data.size = s.size := rfl
    omega
  have := Lib.decodeL_le (s.data.toList.drop pos) hne
  rw [Lib.decodeL_drop s pos, List.length_drop, Array.length_toList] at this
  have : s.data.size = s.size := rfl
  omega
theorem iterPos_at {w : World} {k pos : Nat} {s : ByteArray} (h : w.heap[k]? = some (.stringIter s pos)) : w.iterPos k = pos := by unfold World.iterPos; rw [h]
theorem labelS_parts (s : ByteArray) (N : Nat) (b : Bool) (hN : (runesOf s).length = N) (hb : goodL (runesOf s) = b) : labelS s = (b && (decide (1 ≤ N) && decide (N ≤ 24))) := by unfold labelS; rw [hN, hb]
set_option maxHeartbeats 4000000 in
set_option maxRecDepth 100000 in
theorem label_walk (s : ByteArray) (w : World) (hs : s.size ≤ 140737488351232) :
    Calls Tryd.prog 32 #[.string s] w fun e w' => e = .returned (.bool (labelS s)) ∧ Below w.heap.size w w' := by
  obtain ⟨U, hU⟩ : ∃ U, labelS s = U := ⟨_, rfl⟩
  have HU := Lib.hid hU
  rw [hU]
  clear hU
  have hl : (runesOf s).length ≤ s.size := by have := rns_len s s.size 0; unfold runesOf; omega
  obtain ⟨N, hN⟩ : ∃ N, (runesOf s).length = N := ⟨_, rfl⟩
  rw [hN] at hl
  have HN := Lib.hid hN
  clear hN
  go_enter Tryd.func32, Tryd.ntmps32
  go_wp2
  go_step3
  go_wp2
  go_step3
  go_wp2
  go_loopw [3] (fun v3 wr => ∃ (pos fuel n : Nat), v3 = .int .i64 n ∧ wr.heap[w.heap.size]? = some (.stringIter s pos) ∧ Aside0 (n + (rns s fuel pos).length = N ∧ s.size ≤ pos + fuel ∧ goodL (rns s fuel pos) = goodL (runesOf s)) ∧ n ≤ N ∧ Aside0 (Below w.heap.size w wr)) (fun _ wr => s.size - wr.iterPos w.heap.size)
  case atStart => exact ⟨0, s.size, 0, rfl, iter_new w s, ⟨by have := HN.out; unfold runesOf at this; omega, by omega, rfl⟩, by omega, ⟨below_iter w s⟩⟩
  case round =>
    obtain ⟨pos, fuel, n, rfl, hit, hR, hn, hB⟩ := hrel
    by_cases hp : pos < s.size
    · have hw1 := Lib.decode_width_pos s pos hp
      obtain ⟨f2, hf2, he2⟩ := rns_step s fuel pos hp hR.out.2.1
      have hnx := fun ty => Lib.run_next_any_at (P := Tryd.prog) wr w.heap.size s pos ty hit hp
      have hd3 := decode_le s pos
      have HI0 := Lib.iterAt_heap wr w.heap.size s pos (pos + (Utf8.decode s pos).2) hit
      have HB0 := Lib.below_iterAt hB.out (Nat.le_refl _) s (pos + (Utf8.decode s pos).2)
      have HM0 := iter_less hw1 hit hp
      generalize hd : Utf8.decode s pos = d at *
      obtain ⟨r, wd⟩ := d
      simp only at *
      have hR1 := hR.out
      rw [he2] at hR1
      have hR2 : goodL (runesOf s) = (decide (¬ badR r) && goodL (rns s f2 (pos + wd))) := by rw [← hR1.2.2]; simp [goodL]
      have HBI := Aside0.mk HB0
      have HII := Aside0.mk HI0
      have HMM : Aside0 (s.size - (pos + wd) < s.size - wr.iterPos w.heap.size) := ⟨by rwa [iterPos_at HI0] at HM0⟩
      have hR3 : n + 1 + (rns s f2 (pos + wd)).length = N := by have := hR1.1; rw [List.length_cons] at this; omega
      have hn1 : n + 1 ≤ N := by omega
      have HR3 := Aside0.mk hR3
      have hF := Aside0.mk hf2
      clear hd he2 hf2 hR HI0 HB0 HM0 hB hR1 hR3
      by_cases hbad : badR r
      · have hU : U = false := by
          rw [← HU.out]
          unfold labelS
          rw [hR2, decide_eq_false (not_not_intro hbad)]
          rfl
        subst hU
        clear hR2
        unfold badR at hbad
        rcases hbad with hb | hb | rfl | rfl | rfl | rfl | rfl | rfl | rfl | rfl
        · have t1 : (r : Int) < 32 := by omega
          clear hb
          go_wp2
          try rw [Exit.noGoto_ret]
          go_ret
          exact ⟨rfl, HBI.out⟩
        · have t1 : ¬ (r : Int) < 32 := by omega
          have t2 : (127 : Int) ≤ (r : Int) := by omega
          have t3 : (r : Int) ≤ 159 := by omega
          clear hb
          go_wp2
          try rw [Exit.noGoto_ret]
          go_ret
          exact ⟨rfl, HBI.out⟩
        all_goals
          go_wp2
          try rw [Exit.noGoto_ret]
          go_ret
          exact ⟨rfl, HBI.out⟩
      · have HR2 : Aside0 (goodL (rns s f2 (pos + wd)) = goodL (runesOf s)) := ⟨by rw [hR2, decide_eq_true hbad]; rfl⟩
        clear hR2
        unfold badR at hbad
        have t1 : ¬ (r : Int) < 32 := by omega
        have q1 : ¬ (r : Int) = 32 := by omega
        have q2 : ¬ (r : Int) = 160 := by omega
        have q3 : ¬ (r : Int) = 8232 := by omega
        have q4 : ¬ (r : Int) = 8233 := by omega
        have q5 : ¬ (r : Int) = 12288 := by omega
        have q6 : ¬ (r : Int) = 34 := by omega
        have q7 : ¬ (r : Int) = 92 := by omega
        have q8 : ¬ (r : Int) = 65533 := by omega
        have hc : r < 127 ∨ 159 < r := by omega
        clear hbad
        rcases hc with hc | hc
        · have t2 : ¬ (127 : Int) ≤ (r : Int) := by omega
          clear hc
          go_wp2
          go_roundw
          case rel => exact ⟨pos + wd, f2, n + 1, by go_num, HII.out, ⟨HR3.out, hF.out, HR2.out⟩, hn1, HBI⟩
          case measure => rw [iterPos_at HII.out]; exact HMM.out
        · have t2 : (127 : Int) ≤ (r : Int) := by omega
          have t3 : ¬ (r : Int) ≤ 159 := by omega
          clear hc
          go_wp2
          go_roundw
          case rel => exact ⟨pos + wd, f2, n + 1, by go_num, HII.out, ⟨HR3.out, hF.out, HR2.out⟩, hn1, HBI⟩
          case measure => rw [iterPos_at HII.out]; exact HMM.out
    · have hnx := fun ty => Lib.run_next_end_at (P := Tryd.prog) wr w.heap.size s pos ty hit hp
      have hR1 := hR.out
      rw [rns_end s fuel pos hp] at hR1
      have hg : goodL (runesOf s) = true := by rw [← hR1.2.2]; rfl
      have hnN : n = N := by have := hR1.1; simpa using this
      have hU : U = (decide (1 ≤ n) && decide (n ≤ 24)) := by rw [← HU.out, labelS_parts s N true HN.out hg, hnN]; rfl
      clear hR1 hR hg hnN
      by_cases h1 : 1 ≤ n
      · by_cases h2 : n ≤ 24
        · have t1 : (1 : Int) ≤ (n : Int) := by omega
          have t2 : (n : Int) ≤ 24 := by omega
          rw [decide_eq_true h1, decide_eq_true h2] at hU
          replace hU : U = true := hU
          subst hU
          clear h1 h2
          go_wp2
          try rw [Exit.noGoto_ret]
          go_ret
          exact ⟨rfl, hB.out⟩
        · have t1 : (1 : Int) ≤ (n : Int) := by omega
          have t2 : ¬ (n : Int) ≤ 24 := by omega
          rw [decide_eq_true h1, decide_eq_false h2] at hU
          replace hU : U = false := hU
          subst hU
          clear h1 h2
          go_wp2
          try rw [Exit.noGoto_ret]
          go_ret
          exact ⟨rfl, hB.out⟩
      · have t1 : ¬ (1 : Int) ≤ (n : Int) := by omega
        rw [decide_eq_false h1] at hU
        replace hU : U = false := hU
        subst hU
        clear h1
        go_wp2
        try rw [Exit.noGoto_ret]
        go_ret
        exact ⟨rfl, hB.out⟩
end Go.Proofs.YtpdinahdcedmkaaDoor.Ext
/- liverylaw01.OctetPlain: true. -/
namespace Go.Proofs.YtpdinahdcedmkaaDoor.Ext
set_option linter.unusedVariables false
open Go.RowKit Go.Proofs.YtpdinahdcedmkaaDoorW.PrintWords Go.Proofs.YtpdinahdcedmkaaDoorW.PrintLast Go.Proofs.YtpdinahdcedmkaaDoorW.PrintMore

theorem bytesOf_append (a b : ByteArray) : bytesOf (a ++ b) = bytesOf a ++ bytesOf b := by simp [bytesOf, ByteArray.data_append]
theorem extract_split (s : ByteArray) (i j : Nat) (h : i ≤ j) (hj : j ≤ s.size) : s.extract i j ++ s.extract j s.size = s.extract i s.size := by
  rw [ByteArray.extract_append_extract, Nat.min_eq_left h, Nat.max_eq_right hj]
theorem strOfNums_bytesOf (s : ByteArray) : strOfNums (bytesOf s) = s := by
  apply ByteArray.ext
  rw [← Array.toList_inj, strOfNums_data]
  rw [bytesOf, List.map_map]
  conv => rhs; rw [← List.map_id s.data.toList]
  apply List.map_congr_left
  intro b _
  simp
end Go.Proofs.YtpdinahdcedmkaaDoor.Ext
/- What comes back, plainly: numbers in bytes, bits, digits, decimals. -/
namespace Go.Proofs.YtpdinahdcedmkaaDoor.Ext
set_option linter.unusedVariables false
open Go.RowKit Go.Proofs.YtpdinahdcedmkaaDoorW.PrintWords Go.Proofs.YtpdinahdcedmkaaDoorW.PrintLast Go.Proofs.YtpdinahdcedmkaaDoorW.PrintMore

/-! ### numbers in bytes -/
/-! ### bits -/
/-! ### texts of single bytes -/
theorem size_data (s : ByteArray) : s.data.toList.length = s.size := by rw [Array.length_toList]; rfl
theorem get_list (s : ByteArray) (i : Nat) (h : i < s.size) : (s.get! i) = s.data.toList.getD i 0 := by
  have h' : i < s.data.size := h
  show s.data[i]! = _
  rw [getElem!_pos s.data i h']
  simp [List.getD_eq_getElem?_getD]
  rw [Array.getElem?_eq_getElem h']
  rfl
theorem decode_low (s : ByteArray) (pos : Nat) (h : pos < s.size) (hb : (s.data.toList.getD pos 0).toNat < 128) : Utf8.decode s pos = ((s.data.toList.getD pos 0).toNat, 1) := by
  rw [Lib.decode_at, get_list s pos h]
  unfold Lib.decodeN
  rw [if_pos hb]
theorem decode_low' (s : ByteArray) (pos : Nat) (h : pos < s.size) (hr : (Utf8.decode s pos).1 < 128) : Utf8.decode s pos = ((s.data.toList.getD pos 0).toNat, 1) := by
  rw [Lib.decode_at, get_list s pos h] at *
  rcases Lib.decodeN_shape (s.size - pos) (s.data.toList.getD pos 0).toNat (s.get! (pos + 1)).toNat (s.get! (pos + 2)).toNat (s.get! (pos + 3)).toNat with ⟨c, e⟩ | ⟨k1, k2, k3, cv, e⟩ | ⟨k1, k2, k3, k4, cv, cs, e⟩ | ⟨k1, k2, k3, k4, k5, cv, cw, e⟩ | e
  · exact e
  all_goals rw [e] at hr; simp only at hr; omega
theorem rns_low (s : ByteArray) : ∀ (f pos : Nat), s.size ≤ pos + f → (∀ i, pos ≤ i → i < s.size → (s.data.toList.getD i 0).toNat < 128) → rv (rns s f pos) = (s.data.toList.drop pos).map UInt8.toNat
  | f, pos, hf, ha => by
    by_cases h : pos < s.size
    · obtain ⟨f', rfl⟩ : ∃ f', f = f' + 1 := ⟨f - 1, by omega⟩
      have hd := decode_low s pos h (ha pos (Nat.le_refl _) h)
      have ih := rns_low s f' (pos + 1) (by omega) (fun i h1 h2 => ha i (by omega) h2)
      simp only [rns, if_pos h, hd]
      unfold rv at ih ⊢
      rw [List.map_cons, ih]
      have hl : pos < s.data.toList.length := by rw [size_data]; exact h
      rw [List.drop_eq_getElem_cons hl, List.map_cons]
      congr 1
      simp [List.getD_eq_getElem?_getD, List.getElem?_eq_getElem hl]
    · rw [rns_end s f pos h, List.drop_eq_nil_of_le (by rw [size_data]; omega)]
      rfl
def Low (l : List Int) : Prop := ∀ x ∈ l, 0 ≤ x ∧ x < 128
theorem nums_toNat (l : List Int) (h : Bytes l) : (strOfNums l).data.toList.map UInt8.toNat = l.map Int.toNat := by
  rw [strOfNums_data, List.map_map]
  apply List.map_congr_left
  intro x hx
  have := h x hx
  simp
  omega
theorem Low.bytes {l : List Int} (h : Low l) : Bytes l := fun x hx => by have := h x hx; omega
theorem runes_low (l : List Int) (h : Low l) : rv (runesOf (strOfNums l)) = l.map Int.toNat := by
  unfold runesOf
  rw [rns_low _ _ 0 (by omega), List.drop_zero, nums_toNat l h.bytes]
  intro i _ hi
  have hl : i < l.length := by rw [strOfNums_size] at hi; exact hi
  have := h l[i] (List.getElem_mem hl)
  rw [strOfNums_data]
  simp [List.getD_eq_getElem?_getD, hl]
  omega
/-! ### digits -/
theorem unhexR_all : ∀ (L : List Nat) (ds : List Int), (∀ r ∈ L, isd r = true) → unhexR ds L = if (ds ++ L.map dv).length % 2 = 1 then ([], ((ds ++ L.map dv).length : Int), 10) else (pk (ds ++ L.map dv), ((ds ++ L.map dv).length : Int), 0)
  | [], ds, _ => by simp [unhexR]
  | r :: t, ds, h => by
    rw [unhexR, if_pos (h r (by simp)), unhexR_all t _ (fun x hx => h x (by simp [hx]))]
    simp
theorem dv_hexd (x : Int) (h0 : 0 ≤ x) (h1 : x < 16) : isd (hexd x).toNat = true ∧ dv (hexd x).toNat = x := by
  obtain ⟨n, rfl⟩ := Int.eq_ofNat_of_zero_le h0
  have : ∀ n : Fin 16, isd (hexd ((n.val : Nat) : Int)).toNat = true ∧ dv (hexd ((n.val : Nat) : Int)).toNat = ((n.val : Nat) : Int) := by decide +kernel
  exact this ⟨n, by omega⟩
theorem hexd_low (x : Int) (h0 : 0 ≤ x) (h1 : x < 16) : 0 ≤ hexd x ∧ hexd x < 128 := by unfold hexd; split <;> omega
theorem pk_nib : ∀ l : List Int, Bytes l → pk (l.flatMap fun x => [x / 16, x % 16]) = l
  | [], _ => rfl
  | x :: l, h => by
    have ih := pk_nib l (fun y hy => h y (by simp [hy]))
    have := h x (by simp)
    simp only [List.flatMap_cons, List.cons_append, List.nil_append, pk, ih]
    congr 1
    omega
theorem hexS_low (l : List Int) (h : Bytes l) : Low (hexS l) := by
  intro x hx
  unfold hexS at hx
  rw [List.mem_flatMap] at hx
  obtain ⟨y, hy, hx⟩ := hx
  have := h y hy
  simp only [List.mem_cons, List.not_mem_nil, or_false] at hx
  rcases hx with rfl | rfl
  · exact hexd_low _ (by omega) (by omega)
  · exact hexd_low _ (by omega) (by omega)
theorem unhex_hex (l : List Int) (h : Bytes l) : unhexS (strOfNums (hexS l)) = (l, 2 * (l.length : Int), 0) := by
  unfold unhexS
  rw [runes_low _ (hexS_low l h)]
  have hd : ∀ r ∈ (hexS l).map Int.toNat, isd r = true := by
    intro r hr
    rw [List.mem_map] at hr
    obtain ⟨x, hx, rfl⟩ := hr
    unfold hexS at hx
    rw [List.mem_flatMap] at hx
    obtain ⟨y, hy, hx⟩ := hx
    have := h y hy
    simp only [List.mem_cons, List.not_mem_nil, or_false] at hx
    rcases hx with rfl | rfl
    · exact (dv_hexd _ (by omega) (by omega)).1
    · exact (dv_hexd _ (by omega) (by omega)).1
  rw [unhexR_all _ _ hd, List.nil_append]
  have e : ((hexS l).map Int.toNat).map dv = l.flatMap fun x => [x / 16, x % 16] := by
    clear hd
    unfold hexS
    induction l with
    | nil => rfl
    | cons x l ih =>
      have := h x (by simp)
      simp only [List.flatMap_cons, List.map_append, ih (fun y hy => h y (by simp [hy])), List.map_cons, List.map_nil]
      rw [(dv_hexd (x / 16) (by omega) (by omega)).2, (dv_hexd (x % 16) (by omega) (by omega)).2]
  have hlen : (((hexS l).map Int.toNat).map dv).length = 2 * l.length := by rw [List.length_map, List.length_map, hexS_len]
  rw [if_neg (by omega), hlen, e, pk_nib l h]
  simp
theorem pk_bytes : ∀ D : List Int, (∀ x ∈ D, 0 ≤ x ∧ x < 16) → Bytes (pk D)
  | [], _ => by intro x hx; simp [pk] at hx
  | [a], h => by
    intro x hx
    have := h a (by simp)
    simp [pk] at hx
    omega
  | a :: b :: t, h => by
    intro x hx
    have ha := h a (by simp)
    have hb := h b (by simp)
    simp only [pk, List.mem_cons] at hx
    rcases hx with rfl | hx
    · omega
    · exact pk_bytes t (fun y hy => h y (by simp [hy])) x hx
theorem unhexR_bytes : ∀ (L : List Nat) (ds : List Int), (∀ x ∈ ds, 0 ≤ x ∧ x < 16) → Bytes (unhexR ds L).1 ∧ (unhexR ds L).1.length ≤ ds.length + L.length
  | [], ds, h => by
    rw [unhexR]
    split
    · exact ⟨fun x hx => by simp at hx, by simp⟩
    · exact ⟨pk_bytes ds h, by rw [pk_len]; simp; omega⟩
  | r :: t, ds, h => by
    rw [unhexR]
    split
    · rename_i e
      have ih := unhexR_bytes t (ds ++ [dv r]) (fun x hx => by
        rcases List.mem_append.1 hx with hx | hx
        · exact h x hx
        · simp at hx; subst hx; exact dv_bd e)
      refine ⟨ih.1, ?_⟩
      have := ih.2
      simp at this ⊢
      omega
    · exact ⟨fun x hx => by simp at hx, by simp⟩
theorem unhexS_bytes (s : ByteArray) : Bytes (unhexS s).1 ∧ (unhexS s).1.length ≤ s.size := by
  have h := unhexR_bytes (rv (runesOf s)) [] (by simp)
  refine ⟨h.1, ?_⟩
  have h2 := h.2
  have h3 := rns_len s s.size 0
  have h4 : (rv (runesOf s)).length = (rns s s.size 0).length := by simp [rv, runesOf]
  unfold unhexS
  simp only [List.length_nil] at h2
  omega

/-! ### decimals -/
theorem decL_len : ∀ (k n : Nat), n < 10 ^ (k + 1) → (decL n).length ≤ k + 1
  | 0, n, h => by rw [decL_lt (by simpa using h)]; simp
  | k + 1, n, h => by
    by_cases h1 : n < 10
    · rw [decL_lt h1]; simp
    · rw [decL_ge h1, List.length_append]
      have := decL_len k (n / 10) (by rw [Nat.pow_succ] at h; omega)
      simp
      omega
theorem decL_low (n : Nat) : ∀ x ∈ decL n, 48 ≤ x ∧ x ≤ 57 := by
  induction n using Nat.strongRecOn with
  | ind n ih =>
    intro x hx
    by_cases h : n < 10
    · rw [decL_lt h] at hx; simp at hx; omega
    · rw [decL_ge h, List.mem_append] at hx
      rcases hx with hx | hx
      · exact ih (n / 10) (by omega) x hx
      · simp at hx; omega
theorem numR_app : ∀ (a b : List Nat) (n : Int), numR (a ++ b) n = (numR a n).bind (numR b)
  | [], b, n => rfl
  | r :: t, b, n => by
    simp only [List.cons_append, numR]
    split
    · exact numR_app t b _
    · rfl
theorem numR_dec (n : Nat) (hn : n < 18446744073709551616) : numR ((decL n).map Int.toNat) 0 = some (n : Int) := by
  induction n using Nat.strongRecOn with
  | ind n ih =>
    by_cases h : n < 10
    · rw [decL_lt h]
      simp only [List.map_cons, List.map_nil, numR]
      rw [if_pos (by omega)]
      unfold stepN
      rw [IntKind.wrap_u64, IntKind.wrap_u64]
      congr 1
      omega
    · rw [decL_ge h, List.map_append, numR_app, ih (n / 10) (by omega) (by omega)]
      simp only [Option.bind_some, List.map_cons, List.map_nil, numR]
      rw [if_pos (by omega)]
      unfold stepN
      rw [IntKind.wrap_u64, IntKind.wrap_u64]
      congr 1
      omega
theorem num_dec (n : Nat) (hn : n < 18446744073709551616) : numS (strOfNums (decL n)) = ((n : Int), 0) := by
  have hl := decL_len 19 n (by omega)
  have hp := decL_pos n
  have hlow : Low (decL n) := fun x hx => by have := decL_low n x hx; omega
  unfold numS
  rw [strOfNums_size, if_neg (by omega), runes_low _ hlow, numR_dec n hn]
  simp
theorem numR_bd : ∀ (L : List Nat) (n m : Int), 0 ≤ n ∧ n ≤ 18446744073709551615 → numR L n = some m → 0 ≤ m ∧ m ≤ 18446744073709551615
  | [], n, m, h, e => by
    simp only [numR, Option.some.injEq] at e
    omega
  | r :: t, n, m, h, e => by
    simp only [numR] at e
    split at e
    · exact numR_bd t _ m (stepN_bd n r) e
    · cases e
theorem numS_bd (s : ByteArray) : 0 ≤ (numS s).1 ∧ (numS s).1 < 18446744073709551616 := by
  unfold numS
  split
  · simp
  · split
    · simp
    · rename_i n e
      have := numR_bd _ _ _ (by omega) e
      split
      · simp only; omega
      · simp
end Go.Proofs.YtpdinahdcedmkaaDoor.Ext
