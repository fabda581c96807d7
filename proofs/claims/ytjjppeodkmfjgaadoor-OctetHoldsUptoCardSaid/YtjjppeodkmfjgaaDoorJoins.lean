/- octet.Join, liveryref01.Join and Xor, plainly. -/
import Derived.Test.YtjjppeodkmfjgaaDoorXors
import Derived.Test.YtjjppeodkmfjgaaDoorP6
import Derived.Test.YtjjppeodkmfjgaaDoorNums
namespace Go.Proofs.YtjjppeodkmfjgaaDoor.Ext
set_option linter.unusedVariables false
open Go.RowKit Go.Proofs.YtjjppeodkmfjgaaDoorW.PrintWords Go.Proofs.YtjjppeodkmfjgaaDoorW.PrintLast Go.Proofs.YtjjppeodkmfjgaaDoorW.PrintMore

theorem drop_consL (l : List (List Int)) (i : Nat) (h : i < l.length) : l.drop i = P.rd_L3 l (i : Int) :: l.drop (i + 1) := by
  rw [List.drop_eq_getElem_cons h, P.rd_L3, Int.toNat_natCast, List.getD_eq_getElem?_getD, List.getElem?_eq_getElem h]
  rfl
theorem rjoin_l0 (L : List (List Int)) (hn : L.length ≤ 1000) (hl : L.flatten.length ≤ 10000000) : ∀ (m i : Nat) (out : List Int), i + m = L.length → out.length + (L.drop i).flatten.length ≤ 10000000 → P.liveryref01_Join.l0 (m + 1) out L (L.length : Int) (i : Int) = some (out ++ (L.drop i).flatten)
  | 0, i, out, h, ho => by
    rw [P.liveryref01_Join.l0, if_neg (by omega), List.drop_eq_nil_of_le (by omega)]
    simp
  | m + 1, i, out, h, ho => by
    have hd := drop_consL L i (by omega)
    rw [hd, List.flatten_cons, List.length_append] at ho
    have ih := rjoin_l0 L hn hl m (i + 1) (out ++ P.rd_L3 L (i : Int)) (by omega) (by rw [List.length_append]; omega)
    push_cast at ih
    rw [P.liveryref01_Join.l0, if_pos (by omega), if_pos (by omega), if_pos (by omega), if_pos (by omega), w64 _ (by omega), ih, hd, List.flatten_cons, List.append_assoc]
theorem rjoin_f (L : List (List Int)) (hn : L.length ≤ 1000) (hl : L.flatten.length ≤ 10000000) : P.liveryref01_Join.f (L.length + 1) L = some L.flatten := by
  unfold P.liveryref01_Join.f
  have := rjoin_l0 L hn hl L.length 0 [] (by omega) (by simpa using hl)
  simpa using this
theorem join_l1 (L : List (List Int)) (hn : L.length ≤ 1000) (hl : L.flatten.length ≤ 10000000) : ∀ (m i : Nat) (out : List Int), i + m = L.length → out.length + (L.drop i).flatten.length ≤ 10000000 → P.octet_Join.l1 (m + 1) out L (L.length : Int) (i : Int) = some (out ++ (L.drop i).flatten)
  | 0, i, out, h, ho => by
    rw [P.octet_Join.l1, if_neg (by omega), List.drop_eq_nil_of_le (by omega)]
    simp
  | m + 1, i, out, h, ho => by
    have hd := drop_consL L i (by omega)
    rw [hd, List.flatten_cons, List.length_append] at ho
    have ih := join_l1 L hn hl m (i + 1) (out ++ P.rd_L3 L (i : Int)) (by omega) (by rw [List.length_append]; omega)
    push_cast at ih
    rw [P.octet_Join.l1, if_pos (by omega), if_pos (by omega), if_pos (by omega), if_pos (by omega), w64 _ (by omega), ih, hd, List.flatten_cons, List.append_assoc]
theorem join_l0 (L : List (List Int)) (hn : L.length ≤ 1000) (hl : L.flatten.length ≤ 10000000) : ∀ (m i : Nat) (s : Nat), i + m = L.length → s + (L.drop i).flatten.length ≤ 10000000 → P.octet_Join.l0 (m + 1 + (L.length + 1)) L (s : Int) L (L.length : Int) (i : Int) = some L.flatten
  | 0, i, s, h, ho => by
    have hj := join_l1 L hn hl L.length 0 [] (by omega) (by simpa using hl)
    rw [show 0 + 1 + (L.length + 1) = (L.length + 1) + 1 by omega, P.octet_Join.l0, if_neg (by omega), if_pos (by omega), Int.toNat_natCast, if_pos (by omega)]
    simpa using hj
  | m + 1, i, s, h, ho => by
    have hd := drop_consL L i (by omega)
    rw [hd, List.flatten_cons, List.length_append] at ho
    have ih := join_l0 L hn hl m (i + 1) (s + (P.rd_L3 L (i : Int)).length) (by omega) (by omega)
    push_cast at ih
    rw [show m + 1 + 1 + (L.length + 1) = (m + 1 + (L.length + 1)) + 1 by omega, P.octet_Join.l0, if_pos (by omega), if_pos (by omega), if_pos (by omega), w64 _ (by omega), w64 _ (by omega), ih]
theorem join_f (L : List (List Int)) (hn : L.length ≤ 1000) (hl : L.flatten.length ≤ 10000000) : P.octet_Join.f (2 * L.length + 2) L = some L.flatten := by
  unfold P.octet_Join.f
  have := join_l0 L hn hl L.length 0 0 (by omega) (by simpa using hl)
  rw [show L.length + 1 + (L.length + 1) = 2 * L.length + 2 by omega] at this
  simpa using this

/-! ### the reference's Xor -/
def nbits : Nat → Nat → List Bool
  | 0, _ => []
  | k + 1, a => (a % 2 == 1) :: nbits k (a / 2)
theorem nbits_xor : ∀ (k a b : Nat), byteOf (List.zipWith (fun x y => x != y) (nbits k a) (nbits k b)) = (((a ^^^ b) % 2 ^ k : Nat) : Int)
  | 0, a, b => by simp [nbits, byteOf, Nat.mod_one]
  | k + 1, a, b => by
    rw [nbits, nbits, List.zipWith_cons_cons, byteOf, nbits_xor k (a / 2) (b / 2), ← Nat.xor_div_two, Nat.pow_succ, Nat.mul_comm, Nat.mod_mul]
    have h2 : (a ^^^ b) % 2 = (a % 2) ^^^ (b % 2) := Nat.xor_mod_two_pow (n := 1)
    have ha : a % 2 = 0 ∨ a % 2 = 1 := by omega
    have hb : b % 2 = 0 ∨ b % 2 = 1 := by omega
    rcases ha with ha | ha <;> rcases hb with hb | hb
    · have h3 : (a ^^^ b) % 2 = 0 := by rw [h2, ha, hb]; rfl
      rw [ha, hb, h3, if_neg (by decide)]; push_cast; omega
    · have h3 : (a ^^^ b) % 2 = 1 := by rw [h2, ha, hb]; rfl
      rw [ha, hb, h3, if_pos (by decide)]; push_cast; omega
    · have h3 : (a ^^^ b) % 2 = 1 := by rw [h2, ha, hb]; rfl
      rw [ha, hb, h3, if_pos (by decide)]; push_cast; omega
    · have h3 : (a ^^^ b) % 2 = 0 := by rw [h2, ha, hb]; rfl
      rw [ha, hb, h3, if_neg (by decide)]; push_cast; omega
theorem bits1_n (n : Nat) (h : n < 256) : bits1 (n : Int) = nbits 8 n := by
  have : ∀ n : Fin 256, bits1 ((n.val : Nat) : Int) = nbits 8 n.val := by decide +kernel
  exact this ⟨n, h⟩
theorem byte_xor (x y : Int) (hx : 0 ≤ x ∧ x ≤ 255) (hy : 0 ≤ y ∧ y ≤ 255) : byteOf (List.zipWith (fun x y => x != y) (bits1 x) (bits1 y)) = Go.bits .xor .u8 x y := by
  obtain ⟨a, rfl, ha⟩ := nat_of hx
  obtain ⟨b, rfl, hb⟩ := nat_of hy
  have := Nat.xor_lt_two_pow (n := 8) ha hb
  rw [bits1_n a ha, bits1_n b hb, nbits_xor, xor_nat a b ha hb, Nat.mod_eq_of_lt this]
theorem fromS_cons (c rest : List Bool) (h : c.length = 8) : fromS (c ++ rest) = byteOf c :: fromS rest := by
  unfold fromS fromK
  rw [List.length_append, h, show (8 + rest.length + 7) / 8 = (rest.length + 7) / 8 + 1 by omega, List.range_succ_eq_map, List.map_cons, List.map_map]
  congr 1
  · unfold chunk
    rw [List.drop_zero, List.take_append_of_le_length (by omega), List.take_of_length_le (by omega)]
  · apply List.map_congr_left
    intro q hq
    simp only [Function.comp, chunk]
    rw [show 8 * (q + 1) = c.length + 8 * q by omega, List.drop_append]
    rw [List.drop_eq_nil_of_le (by omega), List.nil_append, show c.length + 8 * q - c.length = 8 * q by omega]
theorem fromS_xor : ∀ (a b : List Int), Bytes a → Bytes b → a.length = b.length → fromS (List.zipWith (fun x y => x != y) (bitsS a) (bitsS b)) = xorS a b
  | [], [], _, _, _ => by simp [bitsS, fromS, fromK, xorS]
  | x :: s, y :: t, ha, hb, h => by
    have ih := fromS_xor s t (fun z hz => ha z (by simp [hz])) (fun z hz => hb z (by simp [hz])) (by simpa using h)
    rw [show bitsS (x :: s) = bits1 x ++ bitsS s from rfl, show bitsS (y :: t) = bits1 y ++ bitsS t from rfl, List.zipWith_append (by rw [bits1_len, bits1_len]), fromS_cons _ _ (by rw [List.length_zipWith, bits1_len, bits1_len]; rfl), byte_xor x y (ha x (by simp)) (hb y (by simp)), ih]
    rfl
  | [], _ :: _, _, _, h => by simp at h
  | _ :: _, [], _, _, h => by simp at h
theorem rfromB_l1 (l : List Bool) (hl : l.length ≤ 100000000) (out : List Int) (ho : out.length < 140737488355328) (q : Nat) (hq : 8 * q < l.length) (k : Nat) : ∀ (m t : Nat), t + m = (chunk l q).length → P.liveryref01_FromBits.l1 (k + 2 * m + 2) l out ((8 * q : Nat) : Int) (byteOf ((chunk l q).take t)) (2 ^ t) ((8 * q + t : Nat) : Int) = P.liveryref01_FromBits.l0 k l (out ++ [byteOf (chunk l q)]) (wrap64 (((8 * q : Nat) : Int) + 8))
  | 0, t, h => by
    have hc : (chunk l q).length = min 8 (l.length - 8 * q) := by unfold chunk; rw [List.length_take, List.length_drop]
    have hbd := byteOf_bd (chunk l q)
    have h256 : (2 : Int) ^ (chunk l q).length ≤ 256 := two_pow_le (show (chunk l q).length ≤ 8 by omega)
    have hj : P.liveryref01_FromBits.j2 (k + 1) l out ((8 * q : Nat) : Int) (byteOf ((chunk l q).take t)) (2 ^ t) ((8 * q + t : Nat) : Int) false = P.liveryref01_FromBits.l0 k l (out ++ [byteOf (chunk l q)]) (wrap64 (((8 * q : Nat) : Int) + 8)) := by
      rw [P.liveryref01_FromBits.j2, if_neg (by decide), if_pos ho, List.take_of_length_le (by omega), Int.emod_eq_of_lt hbd.1 (by omega)]
    rw [show k + 2 * 0 + 2 = (k + 1) + 1 by omega, P.liveryref01_FromBits.l1, w64 (((8 * q : Nat) : Int) + 8) (by omega)]
    rw [w64 (((8 * q : Nat) : Int) + 8) (by omega)] at hj
    split
    · rw [decide_eq_false (by omega)]; exact hj
    · exact hj
  | m + 1, t, h => by
    have hc : (chunk l q).length = min 8 (l.length - 8 * q) := by unfold chunk; rw [List.length_take, List.length_drop]
    have ih := rfromB_l1 l hl out ho q hq k m (t + 1) (by omega)
    have hel : (chunk l q).take (t + 1) = (chunk l q).take t ++ [rdOf false l ((8 * q + t : Nat) : Int)] := by
      rw [List.take_add_one, rdOf, Int.toNat_natCast, List.getD_eq_getElem?_getD]
      congr 1
      unfold chunk
      rw [List.getElem?_take, if_pos (by omega), List.getElem?_drop, List.getElem?_eq_getElem (by omega)]
      rfl
    have hbd := byteOf_bd ((chunk l q).take t)
    have hlen : ((chunk l q).take t).length = t := by rw [List.length_take]; omega
    have h256 : (2 : Int) ^ t ≤ 128 := two_pow_le (show t ≤ 7 by omega)
    have hpos : (0 : Int) < 2 ^ t := Int.pow_pos (by omega)
    rw [hel, byteOf_snoc, hlen] at ih
    rw [hlen] at hbd
    rw [show k + 2 * (m + 1) + 2 = (k + 2 * m + 2) + 1 + 1 by omega, P.liveryref01_FromBits.l1, w64 (((8 * q : Nat) : Int) + 8) (by omega), if_pos (by omega), decide_eq_true (by omega), P.liveryref01_FromBits.j2, if_pos rfl, if_pos (by omega), if_pos (by omega)]
    have e1 : wrap64 (((8 * q + t : Nat) : Int) + 1) = ((8 * q + (t + 1) : Nat) : Int) := by rw [w64 _ (by omega)]; omega
    have e2 : wrap64 ((2 : Int) ^ t * 2) = 2 ^ (t + 1) := by rw [w64 _ (by omega), Int.pow_succ]
    rw [e1, e2]
    rw [w64 (((8 * q : Nat) : Int) + 8) (by omega)] at ih
    by_cases hb : rdOf false l ((8 * q + t : Nat) : Int) = true
    · rw [if_pos hb, w64 _ (by omega)]
      rw [if_pos hb] at ih
      exact ih
    · rw [if_neg hb]
      rw [if_neg hb, Int.add_zero] at ih
      exact ih
theorem rfromB_l0 (l : List Bool) (hl : l.length ≤ 100000000) : ∀ (m q K : Nat), q + m = (l.length + 7) / 8 → 20 * m + 1 ≤ K → P.liveryref01_FromBits.l0 K l (fromK l q) ((8 * q : Nat) : Int) = some (fromS l)
  | 0, q, K, h, hK => by
    obtain ⟨K, rfl⟩ : ∃ J, K = J + 1 := ⟨K - 1, by omega⟩
    rw [P.liveryref01_FromBits.l0, if_neg (by omega)]
    unfold fromS
    rw [← h]
    rfl
  | m + 1, q, K, h, hK => by
    have hc : (chunk l q).length = min 8 (l.length - 8 * q) := by unfold chunk; rw [List.length_take, List.length_drop]
    obtain ⟨k, rfl⟩ : ∃ k, K = (k + 2 * (chunk l q).length + 2) + 1 := ⟨K - 2 * (chunk l q).length - 3, by omega⟩
    rw [P.liveryref01_FromBits.l0, if_pos (by omega)]
    have h1 := rfromB_l1 l hl (fromK l q) (by rw [fromK_len]; omega) q (by omega) k (chunk l q).length 0 (by omega)
    simp only [List.take_zero, byteOf, Int.pow_zero, Nat.add_zero] at h1
    rw [h1, w64 _ (by omega)]
    have ih := rfromB_l0 l hl m (q + 1) k (by omega) (by omega)
    have e : fromK l (q + 1) = fromK l q ++ [byteOf (chunk l q)] := by simp [fromK, List.range_succ]
    rw [← e, show ((8 * q : Nat) : Int) + 8 = ((8 * (q + 1) : Nat) : Int) by omega]
    exact ih
theorem rfromB_f (l : List Bool) (hl : l.length ≤ 100000000) : P.liveryref01_FromBits.f (20 * ((l.length + 7) / 8) + 1) l = some (fromS l) := by
  unfold P.liveryref01_FromBits.f
  have := rfromB_l0 l hl ((l.length + 7) / 8) 0 _ (by omega) (Nat.le_refl _)
  simpa [fromK] using this
theorem rxor_l0 (X Y : List Bool) (h : X.length = Y.length) (hl : X.length ≤ 100000000) : ∀ (m i K : Nat), i + m = X.length → m + 2 + 20 * ((X.length + 7) / 8) ≤ K → P.liveryref01_Xor.l0 K X Y ((List.zipWith (fun x y => x != y) X Y).take i) (X.length : Int) (i : Int) = some (fromS (List.zipWith (fun x y => x != y) X Y))
  | 0, i, K, hi, hK => by
    obtain ⟨K, rfl⟩ : ∃ J, K = J + 1 := ⟨K - 1, by omega⟩
    have hz : (List.zipWith (fun x y => x != y) X Y).length = X.length := by rw [List.length_zipWith]; omega
    rw [P.liveryref01_Xor.l0, if_neg (by omega), List.take_of_length_le (by omega)]
    have h1 := rfromB_f (List.zipWith (fun x y => x != y) X Y) (by omega)
    rw [hz] at h1
    have h2 := LeO_iter (f := fun k => P.liveryref01_FromBits.f k (List.zipWith (fun x y => x != y) X Y)) (fun k => P.liveryref01_FromBits.mono _ k) h1 (K - (20 * ((X.length + 7) / 8) + 1))
    rw [show 20 * ((X.length + 7) / 8) + 1 + (K - (20 * ((X.length + 7) / 8) + 1)) = K by omega] at h2
    rw [h2, Option.bind_some]
  | m + 1, i, K, hi, hK => by
    obtain ⟨K, rfl⟩ : ∃ J, K = J + 1 := ⟨K - 1, by omega⟩
    have hz : (List.zipWith (fun x y => x != y) X Y).length = X.length := by rw [List.length_zipWith]; omega
    have ih := rxor_l0 X Y h hl m (i + 1) K (by omega) (by omega)
    have ht := takeb_snoc (List.zipWith (fun x y => x != y) X Y) i (by omega)
    have he : rdOf false (List.zipWith (fun x y => x != y) X Y) (i : Int) = (rdOf false X (i : Int) != rdOf false Y (i : Int)) := by
      simp only [rdOf, Int.toNat_natCast, List.getD_eq_getElem?_getD]
      rw [List.getElem?_eq_getElem (by omega), List.getElem?_eq_getElem (show i < X.length by omega), List.getElem?_eq_getElem (show i < Y.length by omega), List.getElem_zipWith]
      rfl
    rw [ht, he] at ih
    push_cast at ih
    rw [P.liveryref01_Xor.l0, if_pos (by omega), if_pos (by omega), if_pos (by omega), if_pos (by omega), if_pos (by rw [List.length_take]; omega), w64 _ (by omega), ih]
theorem rxor_f (a b : List Int) (ha : Bytes a) (hb : Bytes b) (h : a.length = b.length) (hl : a.length ≤ 1048576) : P.liveryref01_Xor.f (40 * a.length + 100) a b = some (xorS a b) := by
  unfold P.liveryref01_Xor.f
  have h1 := LeO_iter (f := fun k => P.liveryref01_Bits.f k a) (fun k => P.liveryref01_Bits.mono _ k) (rbits_f a ha hl) (30 * a.length + 99)
  have h2 := LeO_iter (f := fun k => P.liveryref01_Bits.f k b) (fun k => P.liveryref01_Bits.mono _ k) (rbits_f b hb (by omega)) (30 * a.length + 99)
  rw [show 10 * a.length + 1 + (30 * a.length + 99) = 40 * a.length + 100 by omega] at h1
  rw [show 10 * b.length + 1 + (30 * a.length + 99) = 40 * a.length + 100 by omega] at h2
  have la := bitsS_len a
  have lb := bitsS_len b
  rw [h1, Option.bind_some, h2, Option.bind_some]
  have h3 := rxor_l0 (bitsS a) (bitsS b) (by omega) (by omega) (bitsS a).length 0 (40 * a.length + 100) (by omega) (by omega)
  rw [fromS_xor a b ha hb h] at h3
  simpa using h3
end Go.Proofs.YtjjppeodkmfjgaaDoor.Ext
