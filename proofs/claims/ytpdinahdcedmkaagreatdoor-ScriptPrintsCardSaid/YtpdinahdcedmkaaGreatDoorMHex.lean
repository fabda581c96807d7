import Derived.Test.YtpdinahdcedmkaaGreatDoorUnhex
/- liverylaw01.live: true, where Go's two tables of UTF-8 hold what they are to hold. -/
namespace Go.Proofs.YtpdinahdcedmkaaGreatDoor.Ext
set_option linter.unusedVariables false
open Go.RowKit Go.Proofs.YtpdinahdcedmkaaGreatDoorW.PrintWords Go.Proofs.YtpdinahdcedmkaaGreatDoorW.PrintLast Go.Proofs.YtpdinahdcedmkaaGreatDoorW.PrintMore

theorem below_new (w : World) (o : Obj) : Below w.heap.size w (w.alloc o) := (Below.refl _ _).alloc (Nat.le_refl _) o
end Go.Proofs.YtpdinahdcedmkaaGreatDoor.Ext
/- liveryref01.Hex; octet.Hex, plainly. -/
namespace Go.Proofs.YtpdinahdcedmkaaGreatDoor.Ext
set_option linter.unusedVariables false
open Go.RowKit Go.Proofs.YtpdinahdcedmkaaGreatDoorW.PrintWords Go.Proofs.YtpdinahdcedmkaaGreatDoorW.PrintLast Go.Proofs.YtpdinahdcedmkaaGreatDoorW.PrintMore

def hexS (l : List Int) : List Int := l.flatMap fun x => [hexd (x / 16), hexd (x % 16)]
theorem hexS_len (l : List Int) : (hexS l).length = 2 * l.length := by
  induction l with
  | nil => rfl
  | cons a t ih => simp [hexS] at ih ⊢; omega
theorem hexS_snoc (l : List Int) (x : Int) : hexS (l ++ [x]) = hexS l ++ [hexd (x / 16), hexd (x % 16)] := by simp [hexS]
theorem strOfNums_append (a b : List Int) : strOfNums (a ++ b) = strOfNums a ++ strOfNums b := by
  apply ByteArray.ext
  rw [← Array.toList_inj, ByteArray.data_append, Array.toList_append, strOfNums_data, strOfNums_data, strOfNums_data, List.map_append]
theorem sl_hex (x : Int) (k : IntKind) (h0 : 0 ≤ x) (h1 : x < 16) : ∀ W, (Instr.slice 9 (.string ⟨#[48, 49, 50, 51, 52, 53, 54, 55, 56, 57, 97, 98, 99, 100, 101, 102]⟩) (some (.int k x)) (some (.int k (x + 1))) none).run Tryz.prog W = .ok (.string (strOfNums [hexd x])) W := by
  intro W
  obtain rfl | rfl | rfl | rfl | rfl | rfl | rfl | rfl | rfl | rfl | rfl | rfl | rfl | rfl | rfl | rfl : x = 0 ∨ x = 1 ∨ x = 2 ∨ x = 3 ∨ x = 4 ∨ x = 5 ∨ x = 6 ∨ x = 7 ∨ x = 8 ∨ x = 9 ∨ x = 10 ∨ x = 11 ∨ x = 12 ∨ x = 13 ∨ x = 14 ∨ x = 15 := by omega
  all_goals (simp [Instr.slice, run_underlying Tryz.underlying9, go_sem]; rfl)
/-- a list's numbers are bytes -/
def Bytes (l : List Int) : Prop := ∀ x ∈ l, 0 ≤ x ∧ x ≤ 255
theorem Bytes.get {l : List Int} (h : Bytes l) (i : Nat) (hi : i < l.length) : 0 ≤ l.getD i 0 ∧ l.getD i 0 ≤ 255 := by
  rw [List.getD_eq_getElem?_getD, List.getElem?_eq_getElem hi]
  exact h _ (List.getElem_mem hi)
theorem take_snoc (l : List Int) (i : Nat) (hi : i < l.length) : l.take (i + 1) = l.take i ++ [l.getD i 0] := by
  rw [List.take_add_one, List.getD_eq_getElem?_getD, List.getElem?_eq_getElem hi]
  rfl

theorem below_drewN' {b : Nat} {w w' : World} (h : Below b w w') (n : Nat) : Below b w (w'.drewN n) := pw_below_drewN h n
set_option maxHeartbeats 2000000 in
set_option maxRecDepth 100000 in
theorem refHex_walk (A : Option Addr) (c : Nat) (l : List Int) (w : World) (hC : Kd.C (Kd.int .u8) w A l.length l) (hc : l.length ≤ c) (hb : Bytes l) (hl : l.length ≤ 1048576) :
    Calls Tryz.prog 75 #[.slice A l.length c] w fun e w' => e = .returned (.string (strOfNums (hexS l))) ∧ Below w.heap.size w w' := by
  have HC := Aside0.mk hC
  have HBy := Lib.hid hb
  clear hC hb
  go_enter Tryz.func75, Tryz.ntmps75
  go_wp2
  go_loopw [3, 8] (fun v3 v8 wr => ∃ (i : Nat), i ≤ l.length ∧ v8 = .int .i64 (i : Int) ∧ v3 = .string (strOfNums (hexS (l.take i))) ∧ Aside0 (Below w.heap.size w wr)) (fun _ v8 _ => l.length - (intOf v8).toNat)
  case atStart => exact ⟨0, by omega, rfl, rfl, ⟨Below.refl _ _⟩⟩
  case round =>
    obtain ⟨i, hi, rfl, rfl, hB⟩ := hrel
    by_cases hlt : i < l.length
    · have hti : (i : Int) < (l.length : Int) := by omega
      have hg := Bytes.get HBy.out i hlt
      obtain ⟨ad, ea, hx⟩ := Kd.at_int HC.out (i : Int) (by omega) hti
      subst ea
      rw [Int.toNat_natCast] at hx
      replace hx := (hB.out.cell (World.block_lt_of_cell? w _ hx)).trans hx
      have hsn := congrArg hexS (take_snoc l i hlt)
      rw [hexS_snoc] at hsn
      have hsz : (strOfNums (hexS (l.take i))).size = 2 * i := by rw [strOfNums_size, hexS_len, List.length_take]; omega
      rw [show rd l (i : Int) = l.getD i 0 by simp [rd]] at hx
      generalize l.getD i 0 = b at *
      generalize hexS (l.take i) = T at *
      have hb0 := hg.1
      have hb1 := hg.2
      have g1 := sl_hex (b / 16) .u8 (by omega) (by omega)
      have g2 := sl_hex (b % 16) .u8 (by omega) (by omega)
      have hw1 : IntKind.u8.wrap (b / 16 + 1) = b / 16 + 1 := IntWalk.u8_in _ (by omega)
      have hw2 : IntKind.u8.wrap (b % 16 + 1) = b % 16 + 1 := IntWalk.u8_in _ (by omega)
      have e1 : IntKind.u8.wrap (b.tdiv 16) = b / 16 := by rw [Int.tdiv_eq_ediv_of_nonneg hb0]; exact IntWalk.u8_in _ (by omega)
      have e2 : b.tmod 16 = b % 16 := Int.tmod_eq_emod_of_nonneg hb0
      have ha1 := fun W => run_string_add_sum (P := Tryz.prog) W (strOfNums [hexd (b / 16)]) (strOfNums [hexd (b % 16)]) (by simp [strOfNums_size])
      rw [← strOfNums_append] at ha1
      simp only [List.cons_append, List.nil_append] at ha1
      have ha2 := fun W => run_string_add_sum (P := Tryz.prog) W (strOfNums T) (strOfNums [hexd (b / 16), hexd (b % 16)]) (by rw [hsz, strOfNums_size]; simp; omega)
      rw [← strOfNums_append] at ha2
      have HSN : Aside0 (T ++ [hexd (b / 16), hexd (b % 16)] = hexS (List.take (i + 1) l)) := ⟨by rw [hsn]⟩
      have HSZ := Aside0.mk hsz
      clear hsn hsz hg
      go_wp2
      go_quiet (fail)
      go_wp2
      go_roundw
      case rel => exact ⟨i + 1, by omega, by go_num, by rw [← HSN.out], ⟨below_drewN' hB.out nq⟩⟩
      case measure => simp [intOf]; omega
    · obtain rfl : i = l.length := by omega
      rw [List.take_length]
      go_wp2
      go_ret
      exact ⟨rfl, hB.out⟩
theorem bt_hex (x : Int) (h0 : 0 ≤ x) (h1 : x < 16) : bt (⟨#[48, 49, 50, 51, 52, 53, 54, 55, 56, 57, 97, 98, 99, 100, 101, 102]⟩ : ByteArray) x = hexd x := by
  obtain rfl | rfl | rfl | rfl | rfl | rfl | rfl | rfl | rfl | rfl | rfl | rfl | rfl | rfl | rfl | rfl : x = 0 ∨ x = 1 ∨ x = 2 ∨ x = 3 ∨ x = 4 ∨ x = 5 ∨ x = 6 ∨ x = 7 ∨ x = 8 ∨ x = 9 ∨ x = 10 ∨ x = 11 ∨ x = 12 ∨ x = 13 ∨ x = 14 ∨ x = 15 := by omega
  all_goals rfl
theorem w64 (x : Int) (h : -9223372036854775808 ≤ x ∧ x ≤ 9223372036854775807) : wrap64 x = x := (i64_w x).symm.trans (IntWalk.i64_in x h)
theorem drop_cons (l : List Int) (i : Nat) (h : i < l.length) : l.drop i = l.getD i 0 :: l.drop (i + 1) := by
  rw [List.drop_eq_getElem_cons h, List.getD_eq_getElem?_getD, List.getElem?_eq_getElem h]
  rfl
end Go.Proofs.YtpdinahdcedmkaaGreatDoor.Ext
/- liveryref01.Unhex: what octet.Unhex answers. -/
namespace Go.Proofs.YtpdinahdcedmkaaGreatDoor.Ext
set_option linter.unusedVariables false
open Go.RowKit Go.Proofs.YtpdinahdcedmkaaGreatDoorW.PrintWords Go.Proofs.YtpdinahdcedmkaaGreatDoorW.PrintLast Go.Proofs.YtpdinahdcedmkaaGreatDoorW.PrintMore

end Go.Proofs.YtpdinahdcedmkaaGreatDoor.Ext
/- liveryref01.Decimal, plainly; octet.Number, liveryref01.Digits. -/
namespace Go.Proofs.YtpdinahdcedmkaaGreatDoor.Ext
set_option linter.unusedVariables false
open Go.RowKit Go.Proofs.YtpdinahdcedmkaaGreatDoorW.PrintWords Go.Proofs.YtpdinahdcedmkaaGreatDoorW.PrintLast Go.Proofs.YtpdinahdcedmkaaGreatDoorW.PrintMore

theorem u64w (x : Int) (h : 0 ≤ x ∧ x ≤ 18446744073709551615) : IntKind.u64.wrap x = x := by rw [IntKind.wrap_u64]; omega
theorem str_ne {a b : ByteArray} (h : a ≠ b) : (a.toList == b.toList) = false := by
  rw [beq_eq_false_iff_ne, ByteArray.toList_eq, ByteArray.toList_eq]
  exact fun e => h (Go.WideShapes.bytes_inj e)
end Go.Proofs.YtpdinahdcedmkaaGreatDoor.Ext
