/- octet.Choose, Xor, Same, plainly. -/
import Derived.Test.YtjjppeodkmfjgaaDoorBits
import Derived.Test.YtjjppeodkmfjgaaDoorP5
namespace Go.Proofs.YtjjppeodkmfjgaaDoor.Ext
set_option linter.unusedVariables false
open Go.RowKit Go.Proofs.YtjjppeodkmfjgaaDoorW.PrintWords Go.Proofs.YtjjppeodkmfjgaaDoorW.PrintLast Go.Proofs.YtjjppeodkmfjgaaDoorW.PrintMore

theorem nat_of {x : Int} (h : 0 ≤ x ∧ x ≤ 255) : ∃ n : Nat, x = n ∧ n < 256 := by
  obtain ⟨n, rfl⟩ := Int.eq_ofNat_of_zero_le h.1
  exact ⟨n, rfl, by omega⟩
theorem xor_nat (a b : Nat) (ha : a < 256) (hb : b < 256) : Go.bits .xor .u8 (a : Int) (b : Int) = ((a ^^^ b : Nat) : Int) := by
  have ha' : a % 2 ^ IntKind.u8.bits = a := Nat.mod_eq_of_lt ha
  have hb' : b % 2 ^ IntKind.u8.bits = b := Nat.mod_eq_of_lt hb
  simp only [bits, BitVec.ofInt_natCast, BitVec.toNat_xor, BitVec.toNat_ofNat, ha', hb']
  have := Nat.xor_lt_two_pow (n := 8) ha hb
  exact wraps_u8 _ (by omega) (by omega)
theorem or_nat (a b : Nat) (ha : a < 256) (hb : b < 256) : Go.bits .or .u8 (a : Int) (b : Int) = ((a ||| b : Nat) : Int) := (bits_nat .u8 8 (by decide) wraps_u8 a b ha hb).2
theorem xor_bd {x y : Int} (hx : 0 ≤ x ∧ x ≤ 255) (hy : 0 ≤ y ∧ y ≤ 255) : 0 ≤ Go.bits .xor .u8 x y ∧ Go.bits .xor .u8 x y ≤ 255 := by
  obtain ⟨a, rfl, ha⟩ := nat_of hx
  obtain ⟨b, rfl, hb⟩ := nat_of hy
  rw [xor_nat a b ha hb]
  have := Nat.xor_lt_two_pow (n := 8) ha hb
  omega
theorem xor_zero {x y : Int} (hx : 0 ≤ x ∧ x ≤ 255) (hy : 0 ≤ y ∧ y ≤ 255) : Go.bits .xor .u8 x y = 0 ↔ x = y := by
  obtain ⟨a, rfl, ha⟩ := nat_of hx
  obtain ⟨b, rfl, hb⟩ := nat_of hy
  rw [xor_nat a b ha hb]
  constructor
  · intro h
    have h1 : a ^^^ b = 0 := by omega
    have : a = b := by
      have h2 := congrArg (· ^^^ b) h1
      simpa [Nat.xor_assoc] using h2
    rw [this]
  · intro h
    have : a = b := by omega
    subst this
    simp
theorem xor_back {x y : Int} (hx : 0 ≤ x ∧ x ≤ 255) (hy : 0 ≤ y ∧ y ≤ 255) : Go.bits .xor .u8 (Go.bits .xor .u8 x y) y = x := by
  obtain ⟨a, rfl, ha⟩ := nat_of hx
  obtain ⟨b, rfl, hb⟩ := nat_of hy
  have := Nat.xor_lt_two_pow (n := 8) ha hb
  rw [xor_nat a b ha hb, xor_nat _ b (by omega) hb, Nat.xor_assoc]
  simp
theorem or_bd {x y : Int} (hx : 0 ≤ x ∧ x ≤ 255) (hy : 0 ≤ y ∧ y ≤ 255) : 0 ≤ Go.bits .or .u8 x y ∧ Go.bits .or .u8 x y ≤ 255 := by
  obtain ⟨a, rfl, ha⟩ := nat_of hx
  obtain ⟨b, rfl, hb⟩ := nat_of hy
  rw [or_nat a b ha hb]
  have := Nat.or_lt_two_pow (n := 8) ha hb
  omega
theorem or_zero {x y : Int} (hx : 0 ≤ x ∧ x ≤ 255) (hy : 0 ≤ y ∧ y ≤ 255) : Go.bits .or .u8 x y = 0 ↔ x = 0 ∧ y = 0 := by
  obtain ⟨a, rfl, ha⟩ := nat_of hx
  obtain ⟨b, rfl, hb⟩ := nat_of hy
  rw [or_nat a b ha hb]
  have := Nat.left_le_or (n := a) (m := b)
  have := Nat.right_le_or (n := a) (m := b)
  constructor
  · intro h; omega
  · rintro ⟨h1, h2⟩
    have : a = 0 := by omega
    have : b = 0 := by omega
    subst_vars
    rfl
theorem mask_all {x y : Int} (hx : 0 ≤ x ∧ x ≤ 255) (hy : 0 ≤ y ∧ y ≤ 255) : Go.bits .or .u8 (Go.bits .and .u8 x 255) (Go.bits .andNot .u8 y 255) = x := by
  obtain ⟨a, rfl, ha⟩ := nat_of hx
  obtain ⟨b, rfl, hb⟩ := nat_of hy
  have h1 : ∀ a : Fin 256, Go.bits .and .u8 ((a.val : Nat) : Int) 255 = ((a.val : Nat) : Int) := by decide +kernel
  have h2 : ∀ a : Fin 256, Go.bits .andNot .u8 ((a.val : Nat) : Int) 255 = 0 := by decide +kernel
  have h3 : ∀ a : Fin 256, Go.bits .or .u8 ((a.val : Nat) : Int) 0 = ((a.val : Nat) : Int) := by decide +kernel
  rw [h1 ⟨a, ha⟩, h2 ⟨b, hb⟩]
  exact h3 ⟨a, ha⟩
theorem mask_none {x y : Int} (hx : 0 ≤ x ∧ x ≤ 255) (hy : 0 ≤ y ∧ y ≤ 255) : Go.bits .or .u8 (Go.bits .and .u8 x 0) (Go.bits .andNot .u8 y 0) = y := by
  obtain ⟨a, rfl, ha⟩ := nat_of hx
  obtain ⟨b, rfl, hb⟩ := nat_of hy
  have h1 : ∀ a : Fin 256, Go.bits .and .u8 ((a.val : Nat) : Int) 0 = 0 := by decide +kernel
  have h2 : ∀ a : Fin 256, Go.bits .andNot .u8 ((a.val : Nat) : Int) 0 = ((a.val : Nat) : Int) := by decide +kernel
  have h3 : ∀ a : Fin 256, Go.bits .or .u8 0 ((a.val : Nat) : Int) = ((a.val : Nat) : Int) := by decide +kernel
  rw [h1 ⟨a, ha⟩, h2 ⟨b, hb⟩]
  exact h3 ⟨b, hb⟩

/-- a row filled with g from the front, zeros behind -/
def fillS (g : Nat → Int) (n i : Nat) : List Int := (List.range n).map fun j => if j < i then g j else 0
theorem fillS_len (g : Nat → Int) (n i : Nat) : (fillS g n i).length = n := by simp [fillS]
theorem fillS_zero (g : Nat → Int) (n : Nat) : fillS g n 0 = List.replicate n 0 := by apply List.ext_getElem <;> simp [fillS]
theorem fillS_step (g : Nat → Int) (n i : Nat) : (fillS g n i).set i (g i) = fillS g n (i + 1) := by
  apply List.ext_getElem
  · simp [fillS]
  · intro j h1 h2
    rw [List.getElem_set]
    simp only [fillS, List.getElem_map, List.getElem_range]
    by_cases e : i = j
    · subst e; rw [if_pos rfl, if_pos (by omega)]
    · rw [if_neg e]
      by_cases h : j < i
      · rw [if_pos h, if_pos (by omega)]
      · rw [if_neg h, if_neg (by omega)]
def xorS (a b : List Int) : List Int := List.zipWith (fun x y => Go.bits .xor .u8 x y) a b
theorem xorS_len (a b : List Int) (h : a.length = b.length) : (xorS a b).length = a.length := by simp [xorS]; omega
theorem fill_xor (a b : List Int) (h : a.length = b.length) : fillS (fun j => Go.bits .xor .u8 (a.getD j 0) (b.getD j 0)) a.length a.length = xorS a b := by
  apply List.ext_getElem
  · rw [fillS_len, xorS_len a b h]
  · intro j h1 h2
    rw [fillS_len] at h1
    simp only [fillS, xorS, List.getElem_map, List.getElem_range, List.getElem_zipWith]
    rw [if_pos h1, List.getD_eq_getElem?_getD, List.getD_eq_getElem?_getD, List.getElem?_eq_getElem h1, List.getElem?_eq_getElem (by omega)]
    rfl
theorem fill_self (a : List Int) : fillS (fun j => a.getD j 0) a.length a.length = a := by
  apply List.ext_getElem
  · rw [fillS_len]
  · intro j h1 h2
    simp only [fillS, List.getElem_map, List.getElem_range]
    rw [if_pos h2, List.getD_eq_getElem?_getD, List.getElem?_eq_getElem h2]
    rfl
theorem xor_l0 (a b : List Int) (h : a.length = b.length) (hl : a.length ≤ 1048576) : ∀ (m i : Nat), i + m = a.length → P.octet_Xor.l0 (m + 1) a b (fillS (fun j => Go.bits .xor .u8 (a.getD j 0) (b.getD j 0)) a.length i) (a.length : Int) (i : Int) = some (xorS a b, 0)
  | 0, i, hi => by
    rw [P.octet_Xor.l0, if_neg (by omega), show i = a.length by omega, fill_xor a b h]
  | m + 1, i, hi => by
    have ih := xor_l0 a b h hl m (i + 1) (by omega)
    push_cast at ih
    rw [P.octet_Xor.l0, if_pos (by omega), if_pos (by omega), if_pos (by omega), if_pos (by omega), fillS_len, if_pos (by omega), w64 _ (by omega), Int.toNat_natCast, show rd a (i : Int) = a.getD i 0 by simp [rd], show rd b (i : Int) = b.getD i 0 by simp [rd]]
    have hs := fillS_step (fun j => Go.bits .xor .u8 (a.getD j 0) (b.getD j 0)) a.length i
    rw [hs, ih]
def xor2S (a b : List Int) : List Int × Int := if a.length = b.length then (xorS a b, 0) else ([], 1)
theorem xor_f (a b : List Int) (hl : a.length ≤ 1048576) : P.octet_Xor.f (a.length + 1) a b = some (xor2S a b) := by
  unfold P.octet_Xor.f xor2S
  by_cases h : a.length = b.length
  · rw [if_pos (by omega), if_pos h, if_pos (by omega), Int.toNat_natCast, if_pos (by omega), ← fillS_zero (fun j => Go.bits .xor .u8 (a.getD j 0) (b.getD j 0))]
    have := xor_l0 a b h hl a.length 0 (by omega)
    simpa using this
  · rw [if_neg (by omega), if_neg h]
theorem choose_l0 (a b : List Int) (h : a.length = b.length) (hl : a.length ≤ 1048576) (x8 : Int) (g : Nat → Int) (hg : ∀ i, i < a.length → Go.bits .or .u8 (Go.bits .and .u8 (a.getD i 0) x8) (Go.bits .andNot .u8 (b.getD i 0) x8) = g i) : ∀ (m i : Nat), i + m = a.length → P.octet_Choose.l0 (m + 1) a b x8 (fillS g a.length i) (a.length : Int) (i : Int) = some (fillS g a.length a.length, 0)
  | 0, i, hi => by
    rw [P.octet_Choose.l0, if_neg (by omega), show i = a.length by omega]
  | m + 1, i, hi => by
    have ih := choose_l0 a b h hl x8 g hg m (i + 1) (by omega)
    push_cast at ih
    rw [P.octet_Choose.l0, if_pos (by omega), if_pos (by omega), if_pos (by omega), if_pos (by omega), fillS_len, if_pos (by omega), w64 _ (by omega), Int.toNat_natCast, show rd a (i : Int) = a.getD i 0 by simp [rd], show rd b (i : Int) = b.getD i 0 by simp [rd], hg i (by omega), fillS_step, ih]
def chooseS (f : Bool) (a b : List Int) : List Int × Int := if a.length = b.length then ((if f = true then a else b), 0) else ([], 1)
theorem choose_f (f : Bool) (a b : List Int) (ha : Bytes a) (hb : Bytes b) (hl : a.length ≤ 1048576) : P.octet_Choose.f (a.length + 2) f a b = some (chooseS f a b) := by
  unfold P.octet_Choose.f chooseS
  by_cases h : a.length = b.length
  · rw [if_pos (by omega), if_pos h]
    cases f
    · rw [if_neg (by decide), if_neg (by decide), P.octet_Choose.j0, if_pos (by omega), Int.toNat_natCast, if_pos (by omega), ← fillS_zero (fun j => b.getD j 0)]
      have := choose_l0 a b h hl 0 (fun j => b.getD j 0) (fun i hi => mask_none (ha.get i hi) (hb.get i (by omega))) a.length 0 (by omega)
      have e : fillS (fun j => b.getD j 0) a.length a.length = b := by rw [h]; exact fill_self b
      rw [e] at this
      exact this
    · rw [if_pos rfl, if_pos rfl, P.octet_Choose.j0, if_pos (by omega), Int.toNat_natCast, if_pos (by omega), ← fillS_zero (fun j => a.getD j 0)]
      have := choose_l0 a b h hl 255 (fun j => a.getD j 0) (fun i hi => mask_all (ha.get i hi) (hb.get i (by omega))) a.length 0 (by omega)
      rw [fill_self a] at this
      exact this
  · rw [if_neg (by omega), if_neg h]
theorem same_l0 (a b : List Int) (ha : Bytes a) (hb : Bytes b) (h : a.length = b.length) (hl : a.length ≤ 1048576) : ∀ (m i : Nat) (x : Int), i + m = a.length → (0 ≤ x ∧ x ≤ 255) → (x = 0 ↔ a.take i = b.take i) → P.octet_Same.l0 (m + 1) a b x (a.length : Int) (i : Int) = some (decide (a = b))
  | 0, i, x, hi, hx, he => by
    rw [P.octet_Same.l0, if_neg (by omega)]
    rw [List.take_of_length_le (by omega), List.take_of_length_le (by omega)] at he
    congr 1
    by_cases e : a = b
    · rw [decide_eq_true e, he.2 e]; rfl
    · rw [decide_eq_false e]
      exact beq_eq_false_iff_ne.2 fun h => e (he.1 h)
  | m + 1, i, x, hi, hx, he => by
    have hxa := ha.get i (by omega)
    have hxb := hb.get i (by omega)
    have hz := xor_bd hxa hxb
    have ih := same_l0 a b ha hb h hl m (i + 1) (Go.bits .or .u8 x (Go.bits .xor .u8 (a.getD i 0) (b.getD i 0))) (by omega) (or_bd hx hz) (by
      rw [or_zero hx hz, xor_zero hxa hxb, he, take_snoc a i (by omega), take_snoc b i (by omega)]
      constructor
      · rintro ⟨h1, h2⟩; rw [h1, h2]
      · intro h1
        have h2 := List.append_inj h1 (by rw [List.length_take, List.length_take]; omega)
        exact ⟨h2.1, by simpa using h2.2⟩)
    push_cast at ih
    rw [P.octet_Same.l0, if_pos (by omega), if_pos (by omega), if_pos (by omega), if_pos (by omega), w64 _ (by omega), show rd a (i : Int) = a.getD i 0 by simp [rd], show rd b (i : Int) = b.getD i 0 by simp [rd], ih]
theorem same_f (a b : List Int) (ha : Bytes a) (hb : Bytes b) (hl : a.length ≤ 1048576) : P.octet_Same.f (a.length + 1) a b = some (decide (a = b)) := by
  unfold P.octet_Same.f
  by_cases h : a.length = b.length
  · rw [if_pos (by omega)]
    exact same_l0 a b ha hb h hl a.length 0 0 (by omega) (by omega) (by simp)
  · rw [if_neg (by omega), decide_eq_false (by rintro rfl; exact h rfl)]
theorem xorS_bytes (a b : List Int) (ha : Bytes a) (hb : Bytes b) : Bytes (xorS a b) := by
  intro x hx
  unfold xorS at hx
  obtain ⟨i, hi, rfl⟩ := List.getElem_of_mem hx
  rw [List.getElem_zipWith]
  exact xor_bd (ha _ (List.getElem_mem _)) (hb _ (List.getElem_mem _))
theorem xorS_back (a b : List Int) (ha : Bytes a) (hb : Bytes b) (h : a.length = b.length) : xorS (xorS a b) b = a := by
  apply List.ext_getElem
  · simp [xorS]; omega
  · intro i h1 h2
    simp only [xorS, List.getElem_zipWith]
    exact xor_back (ha _ (List.getElem_mem _)) (hb _ (List.getElem_mem _))
end Go.Proofs.YtjjppeodkmfjgaaDoor.Ext
