import Derived.Test.YtpdinahdcedmkaaGreatDoorMHSets
import Derived.Test.YtpdinahdcedmkaaGreatDoorP1
import Derived.Laws.CopyOwn
import Derived.Test.YtpdinahdcedmkaaGreatDoorMHex
import Derived.Laws.BitsLemmas
/- Equality of lists: slices.Equal of bools, levels and strings, octet.Same, the document's Equal. -/
namespace Go.Proofs.YtpdinahdcedmkaaGreatDoor.Ext
open Go.Proofs.YtpdinahdcedmkaaGreatDoor.P
set_option linter.unusedVariables false
set_option linter.unusedSimpArgs false
open Go.RowKit Go.Proofs.YtpdinahdcedmkaaGreatDoorW.PrintWords Go.Proofs.YtpdinahdcedmkaaGreatDoorW.PrintLast Go.Proofs.YtpdinahdcedmkaaGreatDoorW.PrintMore Go.Proofs.YtpdinahdcedmkaaGreatDoor.Spec

theorem actT_info : (Tryz.prog.info? 34).map (·.size) = some 13 := by kernel_rfl
/-- a zero act's cells -/
abbrev actZ : Array Value := #[.int .i64 0, .int .i64 0, .int .i64 0, .int .i64 0, .slice none 0 0, .int .u32 0, .int .u32 0, .int .u32 0, .int .u64 0, .int .u64 0, .int .i64 0, .slice none 0 0, .slice none 0 0]
theorem act_store0 (c0 c1 c2 c3 c4 c5 c6 c7 c8 c9 c10 c11 c12 : Value) (ho : #[c0, c1, c2, c3, c4, c5, c6, c7, c8, c9, c10, c11, c12].all (·.oneCell') = true) (w : World) : (storeCells ⟨w.heap.size, 0, none⟩ [c0, c1, c2, c3, c4, c5, c6, c7, c8, c9, c10, c11, c12]).run Tryz.prog (w.alloc (.cells actZ 34)) = .ok () (w.alloc (.cells #[c0, c1, c2, c3, c4, c5, c6, c7, c8, c9, c10, c11, c12] 34)) :=
  run_storeCells_new (P := Tryz.prog) w 34 actZ #[c0, c1, c2, c3, c4, c5, c6, c7, c8, c9, c10, c11, c12] (by show _ = some 13; exact actT_info) rfl ho
/-- are two lists equal, element by element? -/
def eqBy {α : Type} (q : α → α → Bool) : List α → List α → Bool
  | [], [] => true
  | x :: t, y :: u => q x y && eqBy q t u
  | [], _ :: _ => false
  | _ :: _, [] => false
theorem eqBy_len {α : Type} (q : α → α → Bool) : ∀ a b : List α, a.length ≠ b.length → eqBy q a b = false
  | [], [], h => absurd rfl h
  | x :: t, y :: u, h => by unfold eqBy; rw [eqBy_len q t u (fun e => h (by simp [e]))]; simp
  | [], _ :: _, _ => rfl
  | _ :: _, [], _ => rfl
theorem eqBy_drop {α : Type} (q : α → α → Bool) (z : α) (a b : List α) (i : Nat) (ha : i < a.length) (hb : i < b.length) : eqBy q (a.drop i) (b.drop i) = (q (a.getD i z) (b.getD i z) && eqBy q (a.drop (i + 1)) (b.drop (i + 1))) := by
  rw [List.drop_eq_getElem_cons ha, List.drop_eq_getElem_cons hb, List.getD_eq_getElem?_getD, List.getD_eq_getElem?_getD, List.getElem?_eq_getElem ha, List.getElem?_eq_getElem hb]
  rfl
theorem eqBy_end {α : Type} (q : α → α → Bool) (a b : List α) (i : Nat) (ha : a.length ≤ i) (hb : b.length ≤ i) : eqBy q (a.drop i) (b.drop i) = true := by
  rw [List.drop_of_length_le ha, List.drop_of_length_le hb]; rfl
def lvq (a b : Lv) : Bool := a.f0 == b.f0 && (a.f1 == b.f1)
def stq (a b : ByteArray) : Bool := a.toList == b.toList

attribute [local go_sem high] eqLv
def boq (a b : Bool) : Bool := a == b
set_option maxHeartbeats 8000000 in
set_option maxRecDepth 100000 in
theorem c_eqBool (A : Option Addr) (c : Nat) (a : List Bool) (B : Option Addr) (d : Nat) (b : List Bool) (w : World) (hA : Kd.C Kd.bool w A a.length a) (hB : Kd.C Kd.bool w B b.length b) (hc : a.length ≤ c) (hd : b.length ≤ d) :
    Calls Tryz.prog 99 #[.slice A a.length c, .slice B b.length d] w (BoolB (eqBy boq a b) w) := by
  have hl : a.length ≤ 9223372036854775807 := hA.2.1
  have hl2 : b.length ≤ 9223372036854775807 := hB.2.1
  obtain ⟨R, hR⟩ : ∃ R, eqBy boq a b = R := ⟨_, rfl⟩
  rw [hR]
  by_cases hlen : a.length = b.length
  · have HA := Aside0.mk hA
    have HC := Aside0.mk hB
    have HR := Aside0.mk hR
    rw [← hlen] at hd ⊢
    have HLN := Lib.hid hlen
    clear hlen hA hB hR hl2
    go_enter Tryz.func99, Tryz.ntmps99
    go_wp2
    go_loopw [13] (fun v13 wr => ∃ i : Nat, i ≤ a.length ∧ v13 = .int .i64 (i : Int) ∧ Aside0 (eqBy boq (a.drop i) (b.drop i) = R) ∧ Aside0 (Below w.heap.size w wr)) (fun v13 _ => a.length - (intOf v13).toNat)
    case atStart => exact ⟨0, by omega, rfl, HR, ⟨Below.refl _ _⟩⟩
    case round =>
      obtain ⟨i, hi, rfl, hE, hW⟩ := hrel
      by_cases hlt : i < a.length
      · have htb : i < b.length := by have := HLN.out; omega
        obtain ⟨ad1, ea1, hx1⟩ := Kd.at_bool (Kd.C_below HA.out hW.out) (i : Int) (by omega) (by omega)
        obtain ⟨ad2, ea2, hx2⟩ := Kd.at_bool (Kd.C_below HC.out hW.out) (i : Int) (by omega) (by omega)
        subst ea1
        subst ea2
        simp only [rdOf, Int.toNat_natCast] at hx1 hx2
        have hE2 := hE.out
        rw [eqBy_drop boq false a b i hlt htb] at hE2
        have HE := Aside0.mk hE2
        clear hE2 hE htb
        generalize a.getD i false = x at *
        generalize b.getD i false = y at *
        cases hq : boq x y with
        | true =>
          have HE2 := Aside0.mk (show eqBy boq (a.drop (i + 1)) (b.drop (i + 1)) = R by have := HE.out; rw [hq, Bool.true_and] at this; exact this)
          unfold boq at hq
          go_wp2
          go_quiet (fail)
          go_wp2
          go_roundw
          case rel => exact ⟨i + 1, by omega, by go_num, HE2, ⟨pw_below_drewN hW.out nq⟩⟩
          case measure => simp [intOf]; omega
        | false =>
          obtain rfl : R = false := by have := HE.out; rw [hq] at this; exact this.symm
          unfold boq at hq
          go_wp2
          go_quiet (fail)
          go_wp2
          go_ret
          exact ⟨rfl, pw_below_drewN hW.out nq⟩
      · have := HLN.out
        obtain rfl : R = true := by rw [← hE.out, eqBy_end _ _ _ _ (by omega) (by omega)]
        clear this
        go_wp2
        go_ret
        exact ⟨rfl, hW.out⟩
  · obtain rfl : R = false := by rw [← hR, eqBy_len _ _ _ hlen]
    have t1 : ((a.length : Int) != (b.length : Int)) = true := by rw [bne_iff_ne]; omega
    clear hlen hR hA hB
    go_enter Tryz.func99, Tryz.ntmps99
    go_wp2
    go_ret
    exact ⟨rfl, Below.refl _ _⟩
set_option maxHeartbeats 8000000 in
set_option maxRecDepth 100000 in
theorem c_eqStr (A : Option Addr) (c : Nat) (a : List ByteArray) (B : Option Addr) (d : Nat) (b : List ByteArray) (w : World) (hA : Kd.C Kd.string w A a.length a) (hB : Kd.C Kd.string w B b.length b) (hc : a.length ≤ c) (hd : b.length ≤ d) :
    Calls Tryz.prog 51 #[.slice A a.length c, .slice B b.length d] w (BoolB (eqBy stq a b) w) := by
  have hl : a.length ≤ 9223372036854775807 := hA.2.1
  have hl2 : b.length ≤ 9223372036854775807 := hB.2.1
  obtain ⟨R, hR⟩ : ∃ R, eqBy stq a b = R := ⟨_, rfl⟩
  rw [hR]
  by_cases hlen : a.length = b.length
  · have HA := Aside0.mk hA
    have HC := Aside0.mk hB
    have HR := Aside0.mk hR
    rw [← hlen] at hd ⊢
    have HLN := Lib.hid hlen
    clear hlen hA hB hR hl2
    go_enter Tryz.func51, Tryz.ntmps51
    go_wp2
    go_loopw [13] (fun v13 wr => ∃ i : Nat, i ≤ a.length ∧ v13 = .int .i64 (i : Int) ∧ Aside0 (eqBy stq (a.drop i) (b.drop i) = R) ∧ Aside0 (Below w.heap.size w wr)) (fun v13 _ => a.length - (intOf v13).toNat)
    case atStart => exact ⟨0, by omega, rfl, HR, ⟨Below.refl _ _⟩⟩
    case round =>
      obtain ⟨i, hi, rfl, hE, hW⟩ := hrel
      by_cases hlt : i < a.length
      · have htb : i < b.length := by have := HLN.out; omega
        obtain ⟨ad1, ea1, hx1⟩ := Kd.at_string (Kd.C_below HA.out hW.out) (i : Int) (by omega) (by omega)
        obtain ⟨ad2, ea2, hx2⟩ := Kd.at_string (Kd.C_below HC.out hW.out) (i : Int) (by omega) (by omega)
        subst ea1
        subst ea2
        simp only [rdOf, Int.toNat_natCast] at hx1 hx2
        have hE2 := hE.out
        rw [eqBy_drop stq ByteArray.empty a b i hlt htb] at hE2
        have HE := Aside0.mk hE2
        clear hE2 hE htb
        generalize a.getD i ByteArray.empty = x at *
        generalize b.getD i ByteArray.empty = y at *
        cases hq : stq x y with
        | true =>
          have HE2 := Aside0.mk (show eqBy stq (a.drop (i + 1)) (b.drop (i + 1)) = R by have := HE.out; rw [hq, Bool.true_and] at this; exact this)
          unfold stq at hq
          go_wp2
          go_quiet (fail)
          go_wp2
          go_roundw
          case rel => exact ⟨i + 1, by omega, by go_num, HE2, ⟨pw_below_drewN hW.out nq⟩⟩
          case measure => simp [intOf]; omega
        | false =>
          obtain rfl : R = false := by have := HE.out; rw [hq] at this; exact this.symm
          unfold stq at hq
          go_wp2
          go_quiet (fail)
          go_wp2
          go_ret
          exact ⟨rfl, pw_below_drewN hW.out nq⟩
      · have := HLN.out
        obtain rfl : R = true := by rw [← hE.out, eqBy_end _ _ _ _ (by omega) (by omega)]
        clear this
        go_wp2
        go_ret
        exact ⟨rfl, hW.out⟩
  · obtain rfl : R = false := by rw [← hR, eqBy_len _ _ _ hlen]
    have t1 : ((a.length : Int) != (b.length : Int)) = true := by rw [bne_iff_ne]; omega
    clear hlen hR hA hB
    go_enter Tryz.func51, Tryz.ntmps51
    go_wp2
    go_ret
    exact ⟨rfl, Below.refl _ _⟩
set_option maxHeartbeats 8000000 in
set_option maxRecDepth 100000 in
theorem c_eqLv (A : Option Addr) (c : Nat) (a : List Lv) (B : Option Addr) (d : Nat) (b : List Lv) (w : World) (hA : Kd.C k74 w A a.length a) (hB : Kd.C k74 w B b.length b) (hc : a.length ≤ c) (hd : b.length ≤ d) :
    Calls Tryz.prog 98 #[.slice A a.length c, .slice B b.length d] w (BoolB (eqBy lvq a b) w) := by
  have hl : a.length ≤ 9223372036854775807 := hA.2.1
  have hl2 : b.length ≤ 9223372036854775807 := hB.2.1
  obtain ⟨R, hR⟩ : ∃ R, eqBy lvq a b = R := ⟨_, rfl⟩
  rw [hR]
  by_cases hlen : a.length = b.length
  · have HA := Aside0.mk hA
    have HC := Aside0.mk hB
    have HR := Aside0.mk hR
    rw [← hlen] at hd ⊢
    have HLN := Lib.hid hlen
    clear hlen hA hB hR hl2
    go_enter Tryz.func98, Tryz.ntmps98
    go_wp2
    go_loopw [13] (fun v13 wr => ∃ i : Nat, i ≤ a.length ∧ v13 = .int .i64 (i : Int) ∧ Aside0 (eqBy lvq (a.drop i) (b.drop i) = R) ∧ Aside0 (Below w.heap.size w wr)) (fun v13 _ => a.length - (intOf v13).toNat)
    case atStart => exact ⟨0, by omega, rfl, HR, ⟨Below.refl _ _⟩⟩
    case round =>
      obtain ⟨i, hi, rfl, hE, hW⟩ := hrel
      by_cases hlt : i < a.length
      · have htb : i < b.length := by have := HLN.out; omega
        obtain ⟨ad1, ea1, hx1, hx1'⟩ := at_T74 (Kd.C_below HA.out hW.out) (i : Int) (by omega) (by omega)
        obtain ⟨ad2, ea2, hx2, hx2'⟩ := at_T74 (Kd.C_below HC.out hW.out) (i : Int) (by omega) (by omega)
        subst ea1
        subst ea2
        simp only [rd_T74, Int.toNat_natCast] at hx1 hx2 hx1' hx2'
        have hE2 := hE.out
        rw [eqBy_drop lvq z74 a b i hlt htb] at hE2
        have HE := Aside0.mk hE2
        clear hE2 hE htb
        generalize a.getD i z74 = x at *
        generalize b.getD i z74 = y at *
        cases hq : lvq x y with
        | true =>
          have HE2 := Aside0.mk (show eqBy lvq (a.drop (i + 1)) (b.drop (i + 1)) = R by have := HE.out; rw [hq, Bool.true_and] at this; exact this)
          unfold lvq at hq
          go_wp2
          go_quiet (fail)
          go_wp2
          go_roundw
          case rel => exact ⟨i + 1, by omega, by go_num, HE2, ⟨pw_below_drewN hW.out nq⟩⟩
          case measure => simp [intOf]; omega
        | false =>
          obtain rfl : R = false := by have := HE.out; rw [hq] at this; exact this.symm
          unfold lvq at hq
          go_wp2
          go_quiet (fail)
          go_wp2
          go_ret
          exact ⟨rfl, pw_below_drewN hW.out nq⟩
      · have := HLN.out
        obtain rfl : R = true := by rw [← hE.out, eqBy_end _ _ _ _ (by omega) (by omega)]
        clear this
        go_wp2
        go_ret
        exact ⟨rfl, hW.out⟩
  · obtain rfl : R = false := by rw [← hR, eqBy_len _ _ _ hlen]
    have t1 : ((a.length : Int) != (b.length : Int)) = true := by rw [bne_iff_ne]; omega
    clear hlen hR hA hB
    go_enter Tryz.func98, Tryz.ntmps98
    go_wp2
    go_ret
    exact ⟨rfl, Below.refl _ _⟩
end Go.Proofs.YtpdinahdcedmkaaGreatDoor.Ext
/- octet.Same, plainly (lines of XXors and XBits). -/
namespace Go.Proofs.YtpdinahdcedmkaaGreatDoor.Ext
open Go.Proofs.YtpdinahdcedmkaaGreatDoor.P
set_option linter.unusedVariables false
open Go.RowKit Go.Proofs.YtpdinahdcedmkaaGreatDoorW.PrintWords Go.Proofs.YtpdinahdcedmkaaGreatDoorW.PrintLast Go.Proofs.YtpdinahdcedmkaaGreatDoorW.PrintMore

theorem nat_of {x : Int} (h : 0 ≤ x ∧ x ≤ 255) : ∃ n : Nat, x = n ∧ n < 256 := by
  obtain ⟨n, rfl⟩ := Int.eq_ofNat_of_zero_le h.1
  exact ⟨n, rfl, by omega⟩
theorem xor_nat (a b : Nat) (ha : a < 256) (hb : b < 256) : Go.bits .xor .u8 (a : Int) (b : Int) = ((a ^^^ b : Nat) : Int) := by
  have ha' : a % 2 ^ IntKind.u8.bits = a := Nat.mod_eq_of_lt ha
  have hb' : b % 2 ^ IntKind.u8.bits = b := Nat.mod_eq_of_lt hb
  simp only [bits, BitVec.ofInt_natCast, BitVec.toNat_xor, BitVec.toNat_ofNat, ha', hb']
  have := Nat.xor_lt_two_pow (n := 8) ha hb
  exact wraps_u8 _ (by omega) (by omega)
theorem or_nat (a b : Nat) (ha : a < 256) (hb : b < 256) : Go.bits .or .u8 (a : Int) (b : Int) = ((a ||| b : Nat) : Int) := (bits_nat .u8 8 (by decide) wraps_u8 a b ha hb).2
theorem xor_bd {x y : Int} (hx : 0 ≤ x ∧ x ≤ 255) (hy : 0 ≤ y ∧ y ≤ 255) : 0 ≤ Go.bits .xor .u8 x y ∧ Go.bits .xor .u8 x y ≤ 255 := by
  obtain ⟨a, rfl, ha⟩ := nat_of hx
  obtain ⟨b, rfl, hb⟩ := nat_of hy
  rw [xor_nat a b ha hb]
  have := Nat.xor_lt_two_pow (n := 8) ha hb
  omega
theorem xor_zero {x y : Int} (hx : 0 ≤ x ∧ x ≤ 255) (hy : 0 ≤ y ∧ y ≤ 255) : Go.bits .xor .u8 x y = 0 ↔ x = y := by
  obtain ⟨a, rfl, ha⟩ := nat_of hx
  obtain ⟨b, rfl, hb⟩ := nat_of hy
  rw [xor_nat a b ha hb]
  constructor
  · intro h
    have h1 : a ^^^ b = 0 := by omega
    have : a = b := by
      have h2 := congrArg (· ^^^ b) h1
      simpa [Nat.xor_assoc] using h2
    rw [this]
  · intro h
    have : a = b := by omega
    subst this
    simp
theorem or_bd {x y : Int} (hx : 0 ≤ x ∧ x ≤ 255) (hy : 0 ≤ y ∧ y ≤ 255) : 0 ≤ Go.bits .or .u8 x y ∧ Go.bits .or .u8 x y ≤ 255 := by
  obtain ⟨a, rfl, ha⟩ := nat_of hx
  obtain ⟨b, rfl, hb⟩ := nat_of hy
  rw [or_nat a b ha hb]
  have := Nat.or_lt_two_pow (n := 8) ha hb
  omega
theorem or_zero {x y : Int} (hx : 0 ≤ x ∧ x ≤ 255) (hy : 0 ≤ y ∧ y ≤ 255) : Go.bits .or .u8 x y = 0 ↔ x = 0 ∧ y = 0 := by
  obtain ⟨a, rfl, ha⟩ := nat_of hx
  obtain ⟨b, rfl, hb⟩ := nat_of hy
  rw [or_nat a b ha hb]
  have := Nat.left_le_or (n := a) (m := b)
  have := Nat.right_le_or (n := a) (m := b)
  constructor
  · intro h; omega
  · rintro ⟨h1, h2⟩
    have : a = 0 := by omega
    have : b = 0 := by omega
    subst_vars
    rfl
theorem same_l0 (a b : List Int) (ha : Bytes a) (hb : Bytes b) (h : a.length = b.length) (hl : a.length ≤ 1048576) : ∀ (m i : Nat) (x : Int), i + m = a.length → (0 ≤ x ∧ x ≤ 255) → (x = 0 ↔ a.take i = b.take i) → octet_Same.l0 (m + 1) a b x (a.length : Int) (i : Int) = some (decide (a = b))
  | 0, i, x, hi, hx, he => by
    rw [octet_Same.l0, if_neg (by omega)]
    rw [List.take_of_length_le (by omega), List.take_of_length_le (by omega)] at he
    congr 1
    by_cases e : a = b
    · rw [decide_eq_true e, he.2 e]; rfl
    · rw [decide_eq_false e]
      exact beq_eq_false_iff_ne.2 fun h => e (he.1 h)
  | m + 1, i, x, hi, hx, he => by
    have hxa := ha.get i (by omega)
    have hxb := hb.get i (by omega)
    have hz := xor_bd hxa hxb
    have ih := same_l0 a b ha hb h hl m (i + 1) (Go.bits .or .u8 x (Go.bits .xor .u8 (a.getD i 0) (b.getD i 0))) (by omega) (or_bd hx hz) (by
      rw [or_zero hx hz, xor_zero hxa hxb, he, take_snoc a i (by omega), take_snoc b i (by omega)]
      constructor
      · rintro ⟨h1, h2⟩; rw [h1, h2]
      · intro h1
        have h2 := List.append_inj h1 (by rw [List.length_take, List.length_take]; omega)
        exact ⟨h2.1, by simpa using h2.2⟩)
    push_cast at ih
    rw [octet_Same.l0, if_pos (by omega), if_pos (by omega), if_pos (by omega), if_pos (by omega), w64 _ (by omega), show rd a (i : Int) = a.getD i 0 by simp [rd], show rd b (i : Int) = b.getD i 0 by simp [rd], ih]
theorem same_f (a b : List Int) (ha : Bytes a) (hb : Bytes b) (hl : a.length ≤ 1048576) : octet_Same.f (a.length + 1) a b = some (decide (a = b)) := by
  unfold octet_Same.f
  by_cases h : a.length = b.length
  · rw [if_pos (by omega)]
    exact same_l0 a b ha hb h hl a.length 0 0 (by omega) (by omega) (by simp)
  · rw [if_neg (by omega), decide_eq_false (by rintro rfl; exact h rfl)]
end Go.Proofs.YtpdinahdcedmkaaGreatDoor.Ext
