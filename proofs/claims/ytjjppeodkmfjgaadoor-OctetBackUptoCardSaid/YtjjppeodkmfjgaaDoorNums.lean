/- octet.fits, BigOf, LittleOf and the reference's Big, Fits, Put, Number, Take, Turned, plainly. -/
import Derived.Test.YtjjppeodkmfjgaaDoorXors
import Derived.Test.YtjjppeodkmfjgaaDoorP4
import Derived.Test.YtjjppeodkmfjgaaDoorDecs
namespace Go.Proofs.YtjjppeodkmfjgaaDoor.Ext
set_option linter.unusedVariables false
open Go.RowKit Go.Proofs.YtjjppeodkmfjgaaDoorW.PrintWords Go.Proofs.YtjjppeodkmfjgaaDoorW.PrintLast Go.Proofs.YtjjppeodkmfjgaaDoorW.PrintMore

theorem wraps_u64 (n : Int) (h₀ : 0 ≤ n) (h₁ : n < 2 ^ 64) : IntKind.u64.wrap n = n := by rw [IntKind.wrap_u64]; omega
/-- the code of a number and a size -/
def fitS (n : Nat) (size : Int) : Int := if size < 1 ∨ 8 < size then 1 else if n / 2 ^ (8 * size.toNat) = 0 then 0 else 3
theorem pow_nat (m : Nat) : ((2 ^ m : Nat) : Int) = (2 : Int) ^ m := by push_cast; rfl
theorem fits_f (n : Nat) (size : Int) (hn : n < 18446744073709551616) : P.octet_fits.f 1 n size = some (fitS n size) := by
  unfold P.octet_fits.f fitS
  by_cases h1 : size < 1
  · rw [if_pos h1, if_pos (.inl h1), P.octet_fits.j0, if_pos rfl]
  · rw [if_neg h1]
    by_cases h8 : 8 < size
    · rw [if_pos (.inr h8), decide_eq_true h8, P.octet_fits.j0, if_pos rfl]
    · rw [if_neg (by omega), decide_eq_false h8, P.octet_fits.j0, if_neg (by decide)]
      obtain ⟨m, rfl⟩ := Int.eq_ofNat_of_zero_le (show 0 ≤ size by omega)
      rw [Int.toNat_natCast]
      by_cases h : m < 8
      · rw [if_pos (by omega), w64 _ (by omega), if_pos (by omega)]
        have e : shr .u64 (n : Int) (8 * (m : Int)) = ((n / 2 ^ (8 * m) : Nat) : Int) := by
          unfold shr
          rw [show (8 * (m : Int)).toNat = 8 * m by omega, Nat.min_eq_left (by show 8 * m ≤ 64; omega), ← pow_nat]
          rfl
        rw [e]
        by_cases hz : n / 2 ^ (8 * m) = 0
        · rw [if_pos (by omega), if_pos hz]
        · rw [if_neg (by omega), if_neg hz]
      · obtain rfl : m = 8 := by omega
        rw [if_neg (by omega), if_pos (by omega)]
theorem wrap_div (D : Nat) (h : D < 18446744073709551616) : IntKind.u64.wrap (Int.tdiv (D : Int) 256) = ((D / 256 : Nat) : Int) := by
  rw [Int.tdiv_eq_ediv_of_nonneg (by omega), u64w _ (by omega)]
  omega
theorem div_next (n i : Nat) : n / 2 ^ (8 * i) / 256 = n / 2 ^ (8 * (i + 1)) := by
  rw [show 8 * (i + 1) = 8 * i + 8 by omega, Nat.pow_add, Nat.div_div_eq_div_mul]
theorem rfits_l0 (n : Nat) (size : Nat) (hn : n < 18446744073709551616) (hs : size ≤ 8) : ∀ (m i D : Nat), i + m = size → D = n / 2 ^ (8 * i) → P.liveryref01_Fits.l0 (m + 1) (D : Int) size i = some (decide (n / 2 ^ (8 * size) = 0))
  | 0, i, D, h, hD => by
    rw [P.liveryref01_Fits.l0, if_neg (by omega), ← show i = size by omega, ← hD]
    congr 1
    by_cases hz : D = 0
    · subst hz; rfl
    · rw [decide_eq_false hz]
      exact beq_eq_false_iff_ne.2 (by omega)
  | m + 1, i, D, h, hD => by
    have hle : D ≤ n := by rw [hD]; exact Nat.div_le_self _ _
    have ih := rfits_l0 n size hn hs m (i + 1) (D / 256) (by omega) (by rw [hD, div_next])
    rw [P.liveryref01_Fits.l0, if_pos (by omega), w64 _ (by omega), wrap_div D (by omega)]
    exact ih
theorem rfits_f (n : Nat) (size : Nat) (hn : n < 18446744073709551616) (hs : size ≤ 8) : P.liveryref01_Fits.f (size + 1) n size = some (decide (n / 2 ^ (8 * size) = 0)) := by
  unfold P.liveryref01_Fits.f
  exact rfits_l0 n size hn hs size 0 n (by omega) (by simp)
theorem rbig_l0 (n : Nat) (size : Nat) (hn : n < 18446744073709551616) (hs : size ≤ 8) : ∀ (m t D : Nat), t + m = size → D = n / 2 ^ (8 * t) → P.liveryref01_Big.l0 (m + 1) (D : Int) (bigK n size t) ((size : Int) - 1 - t) = some (bigK n size size)
  | 0, t, D, h, hD => by
    rw [P.liveryref01_Big.l0, if_neg (by omega), show t = size by omega]
  | m + 1, t, D, h, hD => by
    have hle : D ≤ n := by rw [hD]; exact Nat.div_le_self _ _
    have ih := rbig_l0 n size hn hs m (t + 1) (D / 256) (by omega) (by rw [hD, div_next])
    have hset : (bigK n size t).set (size - 1 - t) ((Int.tmod (D : Int) 256) % 256) = bigK n size (t + 1) := by
      rw [← bigK_step n size t (by omega)]
      congr 1
      unfold bigE
      rw [show size - 1 - (size - 1 - t) = t by omega, ← hD, Int.tmod_eq_emod_of_nonneg (by omega)]
      omega
    rw [P.liveryref01_Big.l0, if_pos (by omega), if_pos (by omega), bigK_len, if_pos (by omega), w64 _ (by omega), wrap_div D (by omega), show ((size : Int) - 1 - t).toNat = size - 1 - t by omega, hset, show (size : Int) - 1 - t - 1 = (size : Int) - 1 - ((t + 1 : Nat) : Int) by omega]
    exact ih
theorem rbig_f (n : Nat) (size : Nat) (hn : n < 18446744073709551616) (hs : size ≤ 8) : P.liveryref01_Big.f (size + 1) n size = some (bigK n size size) := by
  unfold P.liveryref01_Big.f
  rw [if_pos (by omega), Int.toNat_natCast, if_pos (by omega), w64 _ (by omega), ← bigK_zero n size]
  have := rbig_l0 n size hn hs size 0 n (by omega) (by simp)
  simpa using this
theorem LeO_iter {α : Type} {f : Nat → Option α} (h : ∀ k, LeO (f k) (f (k + 1))) {k : Nat} {r : α} (hk : f k = some r) : ∀ m, f (k + m) = some r
  | 0 => hk
  | m + 1 => h (k + m) r (LeO_iter h hk m)
theorem rfits_more (n m : Nat) (hn : n < 18446744073709551616) (hs : m ≤ 8) : P.liveryref01_Fits.f 9 n m = some (decide (n / 2 ^ (8 * m) = 0)) := by
  have := LeO_iter (f := fun k => P.liveryref01_Fits.f k n m) (fun k => P.liveryref01_Fits.mono n m k) (rfits_f n m hn hs) (8 - m)
  rwa [show m + 1 + (8 - m) = 9 by omega] at this
theorem rbig_more (n m : Nat) (hn : n < 18446744073709551616) (hs : m ≤ 8) : P.liveryref01_Big.f 9 n m = some (bigK n m m) := by
  have := LeO_iter (f := fun k => P.liveryref01_Big.f k n m) (fun k => P.liveryref01_Big.mono n m k) (rbig_f n m hn hs) (8 - m)
  rwa [show m + 1 + (8 - m) = 9 by omega] at this
def putS (n : Nat) (size : Int) : List Int × Int := if fitS n size = 0 then (bigK n size.toNat size.toNat, 0) else ([], fitS n size)
theorem put_f (n : Nat) (size : Int) (hn : n < 18446744073709551616) : P.liveryref01_Put.f 10 n size = some (putS n size) := by
  unfold P.liveryref01_Put.f putS
  by_cases h1 : size < 1
  · have e : fitS n size = 1 := by unfold fitS; rw [if_pos (.inl h1)]
    rw [e, if_pos h1, if_neg (by decide), P.liveryref01_Put.j0, if_pos rfl]
  · rw [if_neg h1]
    by_cases h8 : 8 < size
    · have e : fitS n size = 1 := by unfold fitS; rw [if_pos (.inr h8)]
      rw [e, if_neg (by decide), decide_eq_true h8, P.liveryref01_Put.j0, if_pos rfl]
    · rw [decide_eq_false h8, P.liveryref01_Put.j0, if_neg (by decide)]
      obtain ⟨m, rfl⟩ := Int.eq_ofNat_of_zero_le (show 0 ≤ size by omega)
      rw [rfits_more n m hn (by omega), Option.bind_some]
      by_cases hz : n / 2 ^ (8 * m) = 0
      · have e : fitS n m = 0 := by unfold fitS; rw [if_neg (by omega), Int.toNat_natCast, if_pos hz]
        rw [e, if_pos rfl, if_pos (by simpa using hz), rbig_more n m hn (by omega), Option.bind_some, Int.toNat_natCast]
      · have e : fitS n m = 3 := by unfold fitS; rw [if_neg (by omega), Int.toNat_natCast, if_neg hz]
        rw [e, if_neg (show ¬ (decide (n / 2 ^ (8 * m) = 0) = true) by rw [decide_eq_true_iff]; exact hz), if_neg (show ¬ ((3 : Int) = 0) by decide)]
theorem big_f (n : Nat) (size : Int) (hn : n < 18446744073709551616) : P.octet_Big.f 1 n size = some (putS n size) := by
  unfold P.octet_Big.f putS
  rw [fits_f n size hn, Option.bind_some]
  by_cases h : fitS n size = 0
  · have hs : ¬ (size < 1 ∨ 8 < size) := by
      intro hc
      unfold fitS at h
      rw [if_pos hc] at h
      omega
    rw [if_pos h, if_pos h]
    unfold octet_big.f
    rw [if_pos (by omega), Option.bind_some, Int.toNat_natCast]
  · rw [if_neg h, if_neg h]

/-- bytes' number, the highest first -/
def numB (l : List Int) : Int := l.foldl (fun a x => a * 256 + x) 0
theorem numB_snoc (l : List Int) (x : Int) : numB (l ++ [x]) = numB l * 256 + x := by simp [numB]
theorem numB_bd : ∀ (m : Nat) (l : List Int), l.length = m → Bytes l → 0 ≤ numB l ∧ numB l < 256 ^ m
  | 0, l, h, _ => by
    obtain rfl := List.eq_nil_of_length_eq_zero h
    simp [numB]
  | m + 1, l, h, hb => by
    have hne : l ≠ [] := by rintro rfl; simp at h
    have e := List.dropLast_concat_getLast hne
    have hb2 : Bytes l.dropLast := fun x hx => hb x (by rw [List.dropLast_eq_take] at hx; exact List.mem_of_mem_take hx)
    have ih := numB_bd m l.dropLast (by rw [List.length_dropLast]; omega) hb2
    have hx := hb (l.getLast hne) (List.getLast_mem hne)
    rw [← e, numB_snoc, Int.pow_succ]
    generalize (256 : Int) ^ m = E at *
    omega
theorem pow256_le {m n : Nat} (h : m ≤ n) : (256 : Int) ^ m ≤ 256 ^ n := by
  have h1 := Int.ofNat_le.2 (Nat.pow_le_pow_right (n := 256) (by omega) h)
  rwa [Int.natCast_pow, Int.natCast_pow] at h1
theorem numB_64 (l : List Int) (hl : l.length ≤ 7) (hb : Bytes l) : 0 ≤ numB l ∧ numB l < 72057594037927936 := by
  have h := numB_bd l.length l rfl hb
  have h3 : (256 : Int) ^ l.length ≤ 256 ^ 7 := pow256_le hl
  have h4 : (256 : Int) ^ 7 = 72057594037927936 := by decide +kernel
  omega
def takeS (l : List Int) : Int × Int := if l.length < 1 ∨ 8 < l.length then (0, 1) else (numB l, 0)
theorem num_l0 (l : List Int) (hb : Bytes l) (hl : l.length ≤ 8) : ∀ (m i : Nat), i + m = l.length → P.liveryref01_Number.l0 (m + 1) (numB (l.take i)) l (l.length : Int) (i : Int) = some (numB l)
  | 0, i, h => by
    rw [P.liveryref01_Number.l0, if_neg (by omega), List.take_of_length_le (by omega)]
  | m + 1, i, h => by
    have hg := hb.get i (by omega)
    have hbd := numB_64 (l.take i) (by rw [List.length_take]; omega) (fun x hx => hb x (List.mem_of_mem_take hx))
    have ih := num_l0 l hb hl m (i + 1) (by omega)
    rw [take_snoc l i (by omega), numB_snoc] at ih
    push_cast at ih
    rw [P.liveryref01_Number.l0, if_pos (by omega), if_pos (by omega), if_pos (by omega), show rd l (i : Int) = l.getD i 0 by simp [rd], w64 _ (by omega), u64w (l.getD i 0) (by omega), u64w (numB (l.take i) * 256) (by omega), u64w _ (by omega), ih]
theorem take_f (l : List Int) (hb : Bytes l) : P.liveryref01_Take.f 9 l = some (takeS l) := by
  unfold P.liveryref01_Take.f takeS
  by_cases h1 : l.length < 1
  · rw [if_pos (by omega), if_pos (by omega)]
  · rw [if_neg (by omega)]
    by_cases h8 : 8 < l.length
    · rw [if_pos (by omega), if_pos (by omega)]
    · rw [if_neg (by omega), if_neg (by omega)]
      have h := num_l0 l hb (by omega) l.length 0 (by omega)
      have h2 := LeO_iter (f := fun k => P.liveryref01_Number.f k l) (fun k => P.liveryref01_Number.mono l k) (show P.liveryref01_Number.f (l.length + 1) l = some (numB l) by unfold P.liveryref01_Number.f; simpa [numB] using h) (8 - l.length)
      rw [show l.length + 1 + (8 - l.length) = 9 by omega] at h2
      rw [h2, Option.bind_some]
theorem bigof_l0 (l : List Int) (hb : Bytes l) (hl : l.length ≤ 8) : ∀ (m i : Nat), i + m = l.length → P.octet_BigOf.l0 (m + 1) (numB (l.take i)) l (l.length : Int) (i : Int) = some (numB l, 0)
  | 0, i, h => by
    rw [P.octet_BigOf.l0, if_neg (by omega), List.take_of_length_le (by omega)]
  | m + 1, i, h => by
    have hg := hb.get i (by omega)
    have hbd := numB_64 (l.take i) (by rw [List.length_take]; omega) (fun x hx => hb x (List.mem_of_mem_take hx))
    have ih := bigof_l0 l hb hl m (i + 1) (by omega)
    rw [take_snoc l i (by omega), numB_snoc] at ih
    push_cast at ih
    rw [P.octet_BigOf.l0, if_pos (by omega), if_pos (by omega), if_pos (by omega), show rd l (i : Int) = l.getD i 0 by simp [rd], w64 _ (by omega), u64w (l.getD i 0) (by omega), u64w (numB (l.take i) * 256) (by omega), bits_join .u64 64 (by decide) wraps_u64 8 _ _ (by omega) (by omega) (by omega) (by omega) (by omega) (by omega), ih]
theorem bigof_f (l : List Int) (hb : Bytes l) : P.octet_BigOf.f 10 l = some (takeS l) := by
  unfold P.octet_BigOf.f takeS
  by_cases h1 : l.length < 1
  · rw [if_pos (by omega), if_pos (by omega), P.octet_BigOf.j0, if_pos rfl]
  · rw [if_neg (by omega)]
    by_cases h8 : 8 < l.length
    · rw [decide_eq_true (by omega), if_pos (by omega), P.octet_BigOf.j0, if_pos rfl]
    · rw [decide_eq_false (by omega), if_neg (by omega), P.octet_BigOf.j0, if_neg (by decide)]
      have h := bigof_l0 l hb (by omega) l.length 0 (by omega)
      have h2 := LeO_iter (f := fun k => P.octet_BigOf.l0 k 0 l l.length 0) (fun k => (P.octet_BigOf.mono_l k).2 _ _ _ _) (show P.octet_BigOf.l0 (l.length + 1) 0 l l.length 0 = some (numB l, 0) by simpa [numB] using h) (8 - l.length)
      rw [show l.length + 1 + (8 - l.length) = 9 by omega] at h2
      exact h2
theorem numB_cons (x : Int) (r : List Int) : numB (x :: r) = x * 256 ^ r.length + numB r := by
  have key : ∀ (r : List Int) (a : Int), r.foldl (fun a x => a * 256 + x) a = a * 256 ^ r.length + r.foldl (fun a x => a * 256 + x) 0 := by
    intro r
    induction r with
    | nil => intro a; simp
    | cons y t ih =>
      intro a
      rw [List.foldl_cons, ih, List.foldl_cons, ih (0 * 256 + y), List.length_cons, Int.pow_succ, Int.add_mul, Int.zero_mul, Int.zero_add, Int.mul_assoc, Int.mul_comm 256, Int.add_assoc]
  unfold numB
  rw [List.foldl_cons, Int.zero_mul, Int.zero_add]
  exact key r x
theorem or_comm64 (a b : Int) (ha : 0 ≤ a ∧ a < 2 ^ 64) (hb : 0 ≤ b ∧ b < 2 ^ 64) : Go.bits .or .u64 a b = Go.bits .or .u64 b a := by
  obtain ⟨m, rfl⟩ := Int.eq_ofNat_of_zero_le ha.1
  obtain ⟨n, rfl⟩ := Int.eq_ofNat_of_zero_le hb.1
  have h1 := (bits_nat .u64 64 (by decide) wraps_u64 m n (by omega) (by omega)).2
  have h2 := (bits_nat .u64 64 (by decide) wraps_u64 n m (by omega) (by omega)).2
  rw [h1, h2, Nat.or_comm]
theorem pow_8 (i : Nat) : (256 : Int) ^ i = 2 ^ (8 * i) := by rw [Int.pow_mul]; rfl
theorem littleof_l0 (l : List Int) (hb : Bytes l) (hl : l.length ≤ 8) : ∀ (m i : Nat), i + m = l.length → P.octet_LittleOf.l0 (m + 1) (numB (l.take i).reverse) l (l.length : Int) (i : Int) = some (numB l.reverse, 0)
  | 0, i, h => by
    rw [P.octet_LittleOf.l0, if_neg (by omega), List.take_of_length_le (by omega)]
  | m + 1, i, h => by
    have hg := hb.get i (by omega)
    have hlen : (l.take i).reverse.length = i := by rw [List.length_reverse, List.length_take]; omega
    have hbd := numB_bd i (l.take i).reverse hlen (fun x hx => hb x (List.mem_of_mem_take (List.mem_reverse.1 hx)))
    have ih := littleof_l0 l hb hl m (i + 1) (by omega)
    rw [take_snoc l i (by omega), List.reverse_append, List.reverse_singleton, List.singleton_append, numB_cons, hlen] at ih
    push_cast at ih
    have h7 : (256 : Int) ^ i ≤ 72057594037927936 := by
      have := pow256_le (show i ≤ 7 by omega)
      have h4 : (256 : Int) ^ 7 = 72057594037927936 := by decide +kernel
      omega
    have hpos : (0 : Int) < 256 ^ i := Int.pow_pos (by omega)
    have hx0 : 0 ≤ l.getD i 0 * 256 ^ i := Int.mul_nonneg hg.1 (Int.le_of_lt hpos)
    have hx1 : l.getD i 0 * 256 ^ i ≤ 255 * 72057594037927936 := Int.mul_le_mul hg.2 h7 (Int.le_of_lt hpos) (by omega)
    have hsh : shl .u64 (l.getD i 0) (8 * (i : Int)) = l.getD i 0 * 256 ^ i := by
      unfold shl
      rw [show (8 * (i : Int)).toNat = 8 * i by omega, Nat.min_eq_left (by show 8 * i ≤ 64; omega), ← pow_8, u64w _ (by omega)]
    have hmod : l.getD i 0 * 256 ^ i % 2 ^ (8 * i) = 0 := by rw [← pow_8]; exact Int.mul_emod_left _ _
    have hor : Go.bits .or .u64 (numB (l.take i).reverse) (l.getD i 0 * 256 ^ i) = l.getD i 0 * 256 ^ i + numB (l.take i).reverse := by
      rw [or_comm64 _ _ (by omega) (by omega)]
      exact bits_join .u64 64 (by decide) wraps_u64 (8 * i) _ _ hx0 hmod (by omega) hbd.1 (by rw [← pow_8]; exact hbd.2) (by omega)
    rw [P.octet_LittleOf.l0, if_pos (by omega), if_pos (by omega), if_pos (by omega), show rd l (i : Int) = l.getD i 0 by simp [rd], w64 (8 * (i : Int)) (by omega), if_pos (by omega), w64 _ (by omega), u64w (l.getD i 0) (by omega), hsh, hor, ih]
theorem littleof_f (l : List Int) (hb : Bytes l) : P.octet_LittleOf.f 10 l = some (takeS l.reverse) := by
  unfold P.octet_LittleOf.f takeS
  rw [List.length_reverse]
  by_cases h1 : l.length < 1
  · rw [if_pos (by omega), if_pos (by omega), P.octet_LittleOf.j0, if_pos rfl]
  · rw [if_neg (by omega)]
    by_cases h8 : 8 < l.length
    · rw [decide_eq_true (by omega), if_pos (by omega), P.octet_LittleOf.j0, if_pos rfl]
    · rw [decide_eq_false (by omega), if_neg (by omega), P.octet_LittleOf.j0, if_neg (by decide)]
      have h := littleof_l0 l hb (by omega) l.length 0 (by omega)
      have h2 := LeO_iter (f := fun k => P.octet_LittleOf.l0 k 0 l l.length 0) (fun k => (P.octet_LittleOf.mono_l k).2 _ _ _ _) (show P.octet_LittleOf.l0 (l.length + 1) 0 l l.length 0 = some (numB l.reverse, 0) by simpa [numB] using h) (8 - l.length)
      rw [show l.length + 1 + (8 - l.length) = 9 by omega] at h2
      exact h2
theorem turned_l0 (l : List Int) (hl : l.length ≤ 1048576) : ∀ (m : Nat) (out : List Int), m ≤ l.length → out.length + m = l.length → P.liveryref01_Turned.l0 (m + 1) l out ((m : Int) - 1) = some (out ++ (l.take m).reverse)
  | 0, out, h, ho => by
    rw [P.liveryref01_Turned.l0, if_neg (by omega)]
    simp
  | m + 1, out, h, ho => by
    have ih := turned_l0 l hl m (out ++ [l.getD m 0]) (by omega) (by simp; omega)
    rw [P.liveryref01_Turned.l0, if_pos (by omega), if_pos (by omega), if_pos (by omega), if_pos (by omega), w64 _ (by omega), show ((m + 1 : Nat) : Int) - 1 = (m : Int) by omega, show rd l (m : Int) = l.getD m 0 by simp [rd], ih, take_snoc l m (by omega)]
    simp
theorem turned_f (l : List Int) (hl : l.length ≤ 1048576) : P.liveryref01_Turned.f (l.length + 1) l = some l.reverse := by
  unfold P.liveryref01_Turned.f
  rw [w64 _ (by omega)]
  have := turned_l0 l hl l.length [] (by omega) (by simp)
  simpa using this
end Go.Proofs.YtjjppeodkmfjgaaDoor.Ext
