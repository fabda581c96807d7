/- octet.Bits, FromBits and the reference's, plainly. -/
import Derived.Test.YtjjppeodkmfjgaaDoorHexes
import Derived.Test.YtjjppeodkmfjgaaDoorP2
import Derived.Test.YtjjppeodkmfjgaaDoorP3
namespace Go.Proofs.YtjjppeodkmfjgaaDoor.Ext
set_option linter.unusedVariables false
open Go.RowKit Go.Proofs.YtjjppeodkmfjgaaDoorW.PrintWords Go.Proofs.YtjjppeodkmfjgaaDoorW.PrintLast Go.Proofs.YtjjppeodkmfjgaaDoorW.PrintMore

/-- bit j of a byte -/
def obit (x : Int) (j : Nat) : Bool := (x / 2 ^ j) % 2 == 1
def bits1 (x : Int) : List Bool := (List.range' 0 8).map (obit x)
def bitsS (l : List Int) : List Bool := l.flatMap bits1
theorem bits1_len (x : Int) : (bits1 x).length = 8 := by simp [bits1]
theorem bitsS_len (l : List Int) : (bitsS l).length = 8 * l.length := by
  induction l with
  | nil => rfl
  | cons a t ih => simp only [bitsS, List.flatMap_cons, List.length_append, bits1_len, List.length_cons] at ih ⊢; omega
theorem obit_octet (x : Int) (j : Nat) (h0 : 0 ≤ x) (h1 : x ≤ 255) (hj : j < 8) : ((Go.bits .and .u8 (shr .u8 x (j : Int)) 1) == 1) = obit x j := by
  obtain ⟨n, rfl⟩ := Int.eq_ofNat_of_zero_le h0
  have : ∀ (n : Fin 256) (j : Fin 8), ((Go.bits .and .u8 (shr .u8 ((n.val : Nat) : Int) ((j.val : Nat) : Int)) 1) == 1) = obit ((n.val : Nat) : Int) j.val := by decide +kernel
  exact this ⟨n, by omega⟩ ⟨j, hj⟩
theorem bits_l1 (x : Int) (h0 : 0 ≤ x) (h1 : x ≤ 255) (l : List Int) (n i : Int) (k : Nat) : ∀ (m j : Nat) (out : List Bool), j + m = 8 → out.length + m < 140737488355328 → P.octet_Bits.l1 (k + 1 + m) out x l n i (j : Int) = P.octet_Bits.l0 k (out ++ (List.range' j m).map (obit x)) l n (wrap64 (i + 1))
  | 0, j, out, h, ho => by
    rw [P.octet_Bits.l1, if_neg (by omega)]
    simp
  | m + 1, j, out, h, ho => by
    rw [show k + 1 + (m + 1) = (k + 1 + m) + 1 by omega, P.octet_Bits.l1, if_pos (by omega), if_pos (by omega), if_pos (by omega), obit_octet x j h0 h1 (by omega), w64 _ (by omega)]
    have := bits_l1 x h0 h1 l n i k m (j + 1) (out ++ [obit x j]) (by omega) (by simp; omega)
    push_cast at this
    rw [this, List.range'_succ]
    simp
theorem bits_l0 (l : List Int) (hb : Bytes l) (hl : l.length ≤ 1048576) : ∀ (m i : Nat) (out : List Bool), i + m = l.length → out.length = 8 * i → P.octet_Bits.l0 (10 * m + 1) out l (l.length : Int) (i : Int) = some (out ++ bitsS (l.drop i))
  | 0, i, out, h, ho => by
    rw [P.octet_Bits.l0, if_neg (by omega), List.drop_eq_nil_of_le (by omega)]
    simp [bitsS]
  | m + 1, i, out, h, ho => by
    have hg := Bytes.get hb i (by omega)
    rw [show 10 * (m + 1) + 1 = (10 * m + 1 + 1 + 8) + 1 by omega, P.octet_Bits.l0, if_pos (by omega), if_pos (by omega), if_pos (by omega), show rd l (i : Int) = l.getD i 0 by simp [rd]]
    have h1 := bits_l1 (l.getD i 0) hg.1 hg.2 l l.length i (10 * m + 1) 8 0 out rfl (by omega)
    push_cast at h1
    rw [h1, w64 _ (by omega)]
    have := bits_l0 l hb hl m (i + 1) (out ++ bits1 (l.getD i 0)) (by omega) (by rw [List.length_append, bits1_len]; omega)
    push_cast at this
    rw [show (List.range' 0 8).map (obit (l.getD i 0)) = bits1 (l.getD i 0) from rfl, this, drop_cons l i (by omega)]
    simp [bitsS, List.append_assoc]
theorem bits_f (l : List Int) (hb : Bytes l) (hl : l.length ≤ 1048576) : P.octet_Bits.f (10 * l.length + 1) l = some (bitsS l) := by
  unfold P.octet_Bits.f
  rw [w64 _ (by omega), if_pos (by omega), if_pos (by omega)]
  have := bits_l0 l hb hl l.length 0 [] (by omega) rfl
  simpa using this
theorem rbits_l1 (x : Int) (h0 : 0 ≤ x) (h1 : x ≤ 255) (l : List Int) (n i : Int) (k : Nat) : ∀ (m j : Nat) (out : List Bool), j + m = 8 → out.length + m < 140737488355328 → P.liveryref01_Bits.l1 (k + 1 + m) out (x / 2 ^ j) l n i (j : Int) = P.liveryref01_Bits.l0 k (out ++ (List.range' j m).map (obit x)) l n (wrap64 (i + 1))
  | 0, j, out, h, ho => by
    rw [P.liveryref01_Bits.l1, if_neg (by omega)]
    simp
  | m + 1, j, out, h, ho => by
    have hp : (0 : Int) ≤ x / 2 ^ j := Int.ediv_nonneg h0 (Int.le_of_lt (Int.pow_pos (by omega)))
    have hle : x / 2 ^ j ≤ x := Int.ediv_le_self _ h0
    rw [show k + 1 + (m + 1) = (k + 1 + m) + 1 by omega, P.liveryref01_Bits.l1, if_pos (by omega), if_pos (by omega), Int.tmod_eq_emod_of_nonneg hp, Int.tdiv_eq_ediv_of_nonneg hp, w64 _ (by omega), w64 _ (by omega)]
    have e : x / 2 ^ j / 2 = x / 2 ^ (j + 1) := by rw [Int.ediv_ediv_of_nonneg (Int.le_of_lt (Int.pow_pos (by omega))), Int.pow_succ]
    have := rbits_l1 x h0 h1 l n i k m (j + 1) (out ++ [obit x j]) (by omega) (by simp; omega)
    push_cast at this
    rw [e, show ((x / 2 ^ j % 2 == 1) : Bool) = obit x j from rfl, this, List.range'_succ]
    simp
theorem rbits_l0 (l : List Int) (hb : Bytes l) (hl : l.length ≤ 1048576) : ∀ (m i : Nat) (out : List Bool), i + m = l.length → out.length = 8 * i → P.liveryref01_Bits.l0 (10 * m + 1) out l (l.length : Int) (i : Int) = some (out ++ bitsS (l.drop i))
  | 0, i, out, h, ho => by
    rw [P.liveryref01_Bits.l0, if_neg (by omega), List.drop_eq_nil_of_le (by omega)]
    simp [bitsS]
  | m + 1, i, out, h, ho => by
    have hg := Bytes.get hb i (by omega)
    rw [show 10 * (m + 1) + 1 = (10 * m + 1 + 1 + 8) + 1 by omega, P.liveryref01_Bits.l0, if_pos (by omega), if_pos (by omega), if_pos (by omega), show rd l (i : Int) = l.getD i 0 by simp [rd], w64 _ (by omega)]
    have h1 := rbits_l1 (l.getD i 0) hg.1 hg.2 l l.length i (10 * m + 1) 8 0 out rfl (by omega)
    simp only [Int.pow_zero, Int.ediv_one] at h1
    push_cast at h1
    rw [h1, w64 _ (by omega)]
    have := rbits_l0 l hb hl m (i + 1) (out ++ bits1 (l.getD i 0)) (by omega) (by rw [List.length_append, bits1_len]; omega)
    push_cast at this
    rw [show (List.range' 0 8).map (obit (l.getD i 0)) = bits1 (l.getD i 0) from rfl, this, drop_cons l i (by omega)]
    simp [bitsS, List.append_assoc]
theorem rbits_f (l : List Int) (hb : Bytes l) (hl : l.length ≤ 1048576) : P.liveryref01_Bits.f (10 * l.length + 1) l = some (bitsS l) := by
  unfold P.liveryref01_Bits.f
  have := rbits_l0 l hb hl l.length 0 [] (by omega) rfl
  simpa using this

/-! ### FromBits -/
theorem two_pow_le {m n : Nat} (h : m ≤ n) : (2 : Int) ^ m ≤ 2 ^ n := by
  have := Nat.pow_le_pow_right (n := 2) (by omega) h
  exact_mod_cast this
def byteOf : List Bool → Int
  | [] => 0
  | b :: t => (if b = true then 1 else 0) + 2 * byteOf t
theorem byteOf_bd : ∀ c : List Bool, 0 ≤ byteOf c ∧ byteOf c < 2 ^ c.length
  | [] => by simp [byteOf]
  | b :: t => by
    have h := byteOf_bd t
    rw [byteOf, List.length_cons, Int.pow_succ]
    generalize (2 : Int) ^ t.length = E at *
    cases b
    · rw [if_neg (by decide)]; omega
    · rw [if_pos rfl]; omega
theorem byteOf_snoc (c : List Bool) (b : Bool) : byteOf (c ++ [b]) = byteOf c + (if b = true then 2 ^ c.length else 0) := by
  induction c with
  | nil => cases b <;> simp [byteOf]
  | cons x t ih =>
    rw [List.cons_append, byteOf, ih, byteOf, List.length_cons, Int.pow_succ]
    generalize (2 : Int) ^ t.length = E at *
    cases b <;> cases x <;> simp <;> omega
def chunk (l : List Bool) (q : Nat) : List Bool := (l.drop (8 * q)).take 8
def fromK (l : List Bool) (N : Nat) : List Int := (List.range N).map fun q => byteOf (chunk l q)
def fromS (l : List Bool) : List Int := fromK l ((l.length + 7) / 8)
theorem fromK_len (l : List Bool) (N : Nat) : (fromK l N).length = N := by simp [fromK]
theorem fromK_nil (N : Nat) : fromK [] N = List.replicate N 0 := by
  apply List.ext_getElem <;> simp [fromK, chunk, byteOf]
theorem chunk_other (L : List Bool) (b : Bool) (q : Nat) (h : q ≠ L.length / 8) : chunk (L ++ [b]) q = chunk L q := by
  unfold chunk
  by_cases h1 : q < L.length / 8
  · rw [List.drop_append_of_le_length (by omega), List.take_append_of_le_length (by rw [List.length_drop]; omega)]
  · rw [List.drop_eq_nil_of_le (by simp; omega), List.drop_eq_nil_of_le (by omega)]
theorem chunk_here (L : List Bool) (b : Bool) : chunk (L ++ [b]) (L.length / 8) = chunk L (L.length / 8) ++ [b] := by
  unfold chunk
  rw [List.drop_append_of_le_length (by omega), List.take_of_length_le (by simp; omega), List.take_of_length_le (by simp; omega)]
theorem chunk_len (L : List Bool) : (chunk L (L.length / 8)).length = L.length % 8 := by
  unfold chunk
  rw [List.length_take, List.length_drop]
  omega
theorem or_bit (v : Int) (m : Nat) (h0 : 0 ≤ v) (h1 : v < 2 ^ m) (hm : m < 8) : Go.bits .or .u8 v (shl .u8 1 (m : Int)) = v + 2 ^ m := by
  obtain ⟨n, rfl⟩ := Int.eq_ofNat_of_zero_le h0
  have hn : n < 2 ^ m := by exact_mod_cast h1
  have : ∀ (m : Fin 8) (n : Fin 128), n.val < 2 ^ m.val → Go.bits .or .u8 ((n.val : Nat) : Int) (shl .u8 1 ((m.val : Nat) : Int)) = ((n.val : Nat) : Int) + 2 ^ m.val := by decide +kernel
  have h2 : 2 ^ m ≤ 2 ^ 7 := Nat.pow_le_pow_right (by omega) (by omega)
  exact this ⟨m, hm⟩ ⟨n, by omega⟩ hn
theorem fromK_false (L : List Bool) (N : Nat) : fromK (L ++ [false]) N = fromK L N := by
  apply List.ext_getElem
  · simp [fromK]
  · intro q h1 h2
    simp only [fromK, List.getElem_map, List.getElem_range]
    by_cases h : q = L.length / 8
    · subst h
      rw [chunk_here, byteOf_snoc]
      simp
    · rw [chunk_other L false q h]
theorem fromK_true (L : List Bool) (N : Nat) (hN : L.length / 8 < N) : fromK (L ++ [true]) N = (fromK L N).set (L.length / 8) (Go.bits .or .u8 (rd (fromK L N) ((L.length : Int) / 8)) (shl .u8 1 ((L.length : Int) % 8))) := by
  have hr : rd (fromK L N) ((L.length : Int) / 8) = byteOf (chunk L (L.length / 8)) := by
    unfold rd
    rw [show ((L.length : Int) / 8).toNat = L.length / 8 by omega, List.getD_eq_getElem?_getD, List.getElem?_eq_getElem (by rw [fromK_len]; exact hN)]
    simp [fromK]
  have hb := byteOf_bd (chunk L (L.length / 8))
  rw [chunk_len] at hb
  rw [hr, show ((L.length : Int) % 8) = ((L.length % 8 : Nat) : Int) by omega, or_bit _ _ hb.1 hb.2 (by omega)]
  apply List.ext_getElem
  · simp [fromK]
  · intro q h1 h2
    rw [List.getElem_set]
    by_cases h : L.length / 8 = q
    · subst h
      rw [if_pos rfl]
      simp only [fromK, List.getElem_map, List.getElem_range]
      rw [chunk_here, byteOf_snoc, chunk_len, if_pos rfl]
    · rw [if_neg h]
      simp only [fromK, List.getElem_map, List.getElem_range]
      rw [chunk_other L true q (Ne.symm h)]
theorem takeb_snoc (l : List Bool) (i : Nat) (hi : i < l.length) : l.take (i + 1) = l.take i ++ [rdOf false l (i : Int)] := by
  rw [List.take_add_one, rdOf, Int.toNat_natCast, List.getD_eq_getElem?_getD, List.getElem?_eq_getElem hi]
  rfl
theorem from_l0 (l : List Bool) (hl : l.length ≤ 8388608) (N : Nat) (hN : N = (l.length + 7) / 8) : ∀ (m i : Nat), i + m = l.length → P.octet_FromBits.l0 (m + 1) (fromK (l.take i) N) l (l.length : Int) (i : Int) = some (fromK l N)
  | 0, i, h => by
    rw [P.octet_FromBits.l0, if_neg (by omega), List.take_of_length_le (by omega)]
  | m + 1, i, h => by
    have ht := takeb_snoc l i (by omega)
    have hlen : (l.take i).length = i := by rw [List.length_take]; omega
    have ih := from_l0 l hl N hN m (i + 1) (by omega)
    push_cast at ih
    rw [P.octet_FromBits.l0, if_pos (by omega), if_pos (by omega), if_pos (by omega)]
    by_cases hb : rdOf false l (i : Int) = true
    · rw [hb] at ht
      have hs := fromK_true (l.take i) N (by omega)
      rw [← ht, hlen] at hs
      rw [if_pos hb, Int.tdiv_eq_ediv_of_nonneg (by omega), Int.tmod_eq_emod_of_nonneg (by omega), w64 _ (by omega), w64 _ (by omega), if_pos (by omega), fromK_len, if_pos (by omega), if_pos (by omega), show ((i : Int) / 8).toNat = i / 8 by omega, ← hs, ih]
    · have hf : rdOf false l (i : Int) = false := by simpa using hb
      rw [hf] at ht
      rw [if_neg hb, w64 _ (by omega), ← fromK_false, ← ht, ih]
theorem from_f (l : List Bool) (hl : l.length ≤ 8388608) : P.octet_FromBits.f (l.length + 1) l = some (fromS l) := by
  unfold P.octet_FromBits.f
  have e : wrap64 (Int.tdiv (wrap64 ((l.length : Int) + 7)) 8) = (((l.length + 7) / 8 : Nat) : Int) := by
    rw [w64 ((l.length : Int) + 7) (by omega), Int.tdiv_eq_ediv_of_nonneg (by omega), w64 _ (by omega)]
    omega
  rw [e, if_pos (by omega), Int.toNat_natCast, if_pos (by omega), ← fromK_nil]
  have := from_l0 l hl _ rfl l.length 0 (by omega)
  unfold fromS
  simpa using this

theorem rfrom_l1 (l : List Bool) (hl : l.length ≤ 1048576) (out : List Int) (ho : out.length < 140737488355328) (q : Nat) (hq : 8 * q < l.length) (k : Nat) : ∀ (m t : Nat), t + m = (chunk l q).length → P.liveryref01_FromBits.l1 (k + 2 * m + 2) l out ((8 * q : Nat) : Int) (byteOf ((chunk l q).take t)) (2 ^ t) ((8 * q + t : Nat) : Int) = P.liveryref01_FromBits.l0 k l (out ++ [byteOf (chunk l q)]) (wrap64 (((8 * q : Nat) : Int) + 8))
  | 0, t, h => by
    have hc : (chunk l q).length = min 8 (l.length - 8 * q) := by unfold chunk; rw [List.length_take, List.length_drop]
    have hbd := byteOf_bd (chunk l q)
    have h256 : (2 : Int) ^ (chunk l q).length ≤ 256 := two_pow_le (show (chunk l q).length ≤ 8 by omega)
    have hj : P.liveryref01_FromBits.j2 (k + 1) l out ((8 * q : Nat) : Int) (byteOf ((chunk l q).take t)) (2 ^ t) ((8 * q + t : Nat) : Int) false = P.liveryref01_FromBits.l0 k l (out ++ [byteOf (chunk l q)]) (wrap64 (((8 * q : Nat) : Int) + 8)) := by
      rw [P.liveryref01_FromBits.j2, if_neg (by decide), if_pos ho, List.take_of_length_le (by omega), Int.emod_eq_of_lt hbd.1 (by omega)]
    rw [show k + 2 * 0 + 2 = (k + 1) + 1 by omega, P.liveryref01_FromBits.l1, w64 (((8 * q : Nat) : Int) + 8) (by omega)]
    rw [w64 (((8 * q : Nat) : Int) + 8) (by omega)] at hj
    split
    · rw [decide_eq_false (by omega)]; exact hj
    · exact hj
  | m + 1, t, h => by
    have hc : (chunk l q).length = min 8 (l.length - 8 * q) := by unfold chunk; rw [List.length_take, List.length_drop]
    have ih := rfrom_l1 l hl out ho q hq k m (t + 1) (by omega)
    have hel : (chunk l q).take (t + 1) = (chunk l q).take t ++ [rdOf false l ((8 * q + t : Nat) : Int)] := by
      rw [List.take_add_one, rdOf, Int.toNat_natCast, List.getD_eq_getElem?_getD]
      congr 1
      unfold chunk
      rw [List.getElem?_take, if_pos (by omega), List.getElem?_drop, List.getElem?_eq_getElem (by omega)]
      rfl
    have hbd := byteOf_bd ((chunk l q).take t)
    have hlen : ((chunk l q).take t).length = t := by rw [List.length_take]; omega
    have h256 : (2 : Int) ^ t ≤ 128 := two_pow_le (show t ≤ 7 by omega)
    have hpos : (0 : Int) < 2 ^ t := Int.pow_pos (by omega)
    rw [hel, byteOf_snoc, hlen] at ih
    rw [hlen] at hbd
    rw [show k + 2 * (m + 1) + 2 = (k + 2 * m + 2) + 1 + 1 by omega, P.liveryref01_FromBits.l1, w64 (((8 * q : Nat) : Int) + 8) (by omega), if_pos (by omega), decide_eq_true (by omega), P.liveryref01_FromBits.j2, if_pos rfl, if_pos (by omega), if_pos (by omega)]
    have e1 : wrap64 (((8 * q + t : Nat) : Int) + 1) = ((8 * q + (t + 1) : Nat) : Int) := by rw [w64 _ (by omega)]; omega
    have e2 : wrap64 ((2 : Int) ^ t * 2) = 2 ^ (t + 1) := by rw [w64 _ (by omega), Int.pow_succ]
    rw [e1, e2]
    rw [w64 (((8 * q : Nat) : Int) + 8) (by omega)] at ih
    by_cases hb : rdOf false l ((8 * q + t : Nat) : Int) = true
    · rw [if_pos hb, w64 _ (by omega)]
      rw [if_pos hb] at ih
      exact ih
    · rw [if_neg hb]
      rw [if_neg hb, Int.add_zero] at ih
      exact ih
theorem rfrom_l0 (l : List Bool) (hl : l.length ≤ 1048576) : ∀ (m q K : Nat), q + m = (l.length + 7) / 8 → 20 * m + 1 ≤ K → P.liveryref01_FromBits.l0 K l (fromK l q) ((8 * q : Nat) : Int) = some (fromS l)
  | 0, q, K, h, hK => by
    obtain ⟨K, rfl⟩ : ∃ J, K = J + 1 := ⟨K - 1, by omega⟩
    rw [P.liveryref01_FromBits.l0, if_neg (by omega)]
    unfold fromS
    rw [← h]
    rfl
  | m + 1, q, K, h, hK => by
    have hc : (chunk l q).length = min 8 (l.length - 8 * q) := by unfold chunk; rw [List.length_take, List.length_drop]
    obtain ⟨k, rfl⟩ : ∃ k, K = (k + 2 * (chunk l q).length + 2) + 1 := ⟨K - 2 * (chunk l q).length - 3, by omega⟩
    rw [P.liveryref01_FromBits.l0, if_pos (by omega)]
    have h1 := rfrom_l1 l hl (fromK l q) (by rw [fromK_len]; omega) q (by omega) k (chunk l q).length 0 (by omega)
    simp only [List.take_zero, byteOf, Int.pow_zero, Nat.add_zero] at h1
    rw [h1, w64 _ (by omega)]
    have ih := rfrom_l0 l hl m (q + 1) k (by omega) (by omega)
    have e : fromK l (q + 1) = fromK l q ++ [byteOf (chunk l q)] := by simp [fromK, List.range_succ]
    rw [← e, show ((8 * q : Nat) : Int) + 8 = ((8 * (q + 1) : Nat) : Int) by omega]
    exact ih
theorem rfrom_f (l : List Bool) (hl : l.length ≤ 1048576) : P.liveryref01_FromBits.f (20 * ((l.length + 7) / 8) + 1) l = some (fromS l) := by
  unfold P.liveryref01_FromBits.f
  have := rfrom_l0 l hl ((l.length + 7) / 8) 0 _ (by omega) (Nat.le_refl _)
  simpa [fromK] using this
end Go.Proofs.YtjjppeodkmfjgaaDoor.Ext
