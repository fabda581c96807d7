import Derived.Test.YtpdinahdcedmkaaDoorUnhex
/- liverylaw01.live: true, where Go's two tables of UTF-8 hold what they are to hold. -/
namespace Go.Proofs.YtpdinahdcedmkaaDoor.Ext
set_option linter.unusedVariables false
open Go.RowKit Go.Proofs.YtpdinahdcedmkaaDoorW.PrintWords Go.Proofs.YtpdinahdcedmkaaDoorW.PrintLast Go.Proofs.YtpdinahdcedmkaaDoorW.PrintMore

theorem below_new (w : World) (o : Obj) : Below w.heap.size w (w.alloc o) := (Below.refl _ _).alloc (Nat.le_refl _) o
end Go.Proofs.YtpdinahdcedmkaaDoor.Ext
/- liveryref01.Hex; octet.Hex, plainly. -/
namespace Go.Proofs.YtpdinahdcedmkaaDoor.Ext
set_option linter.unusedVariables false
open Go.RowKit Go.Proofs.YtpdinahdcedmkaaDoorW.PrintWords Go.Proofs.YtpdinahdcedmkaaDoorW.PrintLast Go.Proofs.YtpdinahdcedmkaaDoorW.PrintMore

def hexS (l : List Int) : List Int := l.flatMap fun x => [hexd (x / 16), hexd (x % 16)]
theorem hexS_len (l : List Int) : (hexS l).length = 2 * l.length := by
  induction l with
  | nil => rfl
  | cons a t ih => simp [hexS] at ih ⊢; omega
/-- a list's numbers are bytes -/
def Bytes (l : List Int) : Prop := ∀ x ∈ l, 0 ≤ x ∧ x ≤ 255
theorem Bytes.get {l : List Int} (h : Bytes l) (i : Nat) (hi : i < l.length) : 0 ≤ l.getD i 0 ∧ l.getD i 0 ≤ 255 := by
  rw [List.getD_eq_getElem?_getD, List.getElem?_eq_getElem hi]
  exact h _ (List.getElem_mem hi)
theorem take_snoc (l : List Int) (i : Nat) (hi : i < l.length) : l.take (i + 1) = l.take i ++ [l.getD i 0] := by
  rw [List.take_add_one, List.getD_eq_getElem?_getD, List.getElem?_eq_getElem hi]
  rfl

theorem below_drewN' {b : Nat} {w w' : World} (h : Below b w w') (n : Nat) : Below b w (w'.drewN n) := pw_below_drewN h n
theorem bt_hex (x : Int) (h0 : 0 ≤ x) (h1 : x < 16) : bt (⟨#[48, 49, 50, 51, 52, 53, 54, 55, 56, 57, 97, 98, 99, 100, 101, 102]⟩ : ByteArray) x = hexd x := by
  obtain rfl | rfl | rfl | rfl | rfl | rfl | rfl | rfl | rfl | rfl | rfl | rfl | rfl | rfl | rfl | rfl : x = 0 ∨ x = 1 ∨ x = 2 ∨ x = 3 ∨ x = 4 ∨ x = 5 ∨ x = 6 ∨ x = 7 ∨ x = 8 ∨ x = 9 ∨ x = 10 ∨ x = 11 ∨ x = 12 ∨ x = 13 ∨ x = 14 ∨ x = 15 := by omega
  all_goals rfl
theorem w64 (x : Int) (h : -9223372036854775808 ≤ x ∧ x ≤ 9223372036854775807) : wrap64 x = x := (i64_w x).symm.trans (IntWalk.i64_in x h)
theorem drop_cons (l : List Int) (i : Nat) (h : i < l.length) : l.drop i = l.getD i 0 :: l.drop (i + 1) := by
  rw [List.drop_eq_getElem_cons h, List.getD_eq_getElem?_getD, List.getElem?_eq_getElem h]
  rfl
end Go.Proofs.YtpdinahdcedmkaaDoor.Ext
/- liveryref01.Unhex: what octet.Unhex answers. -/
namespace Go.Proofs.YtpdinahdcedmkaaDoor.Ext
set_option linter.unusedVariables false
open Go.RowKit Go.Proofs.YtpdinahdcedmkaaDoorW.PrintWords Go.Proofs.YtpdinahdcedmkaaDoorW.PrintLast Go.Proofs.YtpdinahdcedmkaaDoorW.PrintMore

end Go.Proofs.YtpdinahdcedmkaaDoor.Ext
/- liveryref01.Decimal, plainly; octet.Number, liveryref01.Digits. -/
namespace Go.Proofs.YtpdinahdcedmkaaDoor.Ext
set_option linter.unusedVariables false
open Go.RowKit Go.Proofs.YtpdinahdcedmkaaDoorW.PrintWords Go.Proofs.YtpdinahdcedmkaaDoorW.PrintLast Go.Proofs.YtpdinahdcedmkaaDoorW.PrintMore

def stepN (n : Int) (r : Nat) : Int := IntKind.u64.wrap (IntKind.u64.wrap (n * 10) + ((r : Int) - 48))
def numR : List Nat → Int → Option Int
  | [], n => some n
  | r :: t, n => if 48 ≤ r ∧ r ≤ 57 then numR t (stepN n r) else none
def numS (s : ByteArray) : Int × Int :=
  if s.size = 0 ∨ 20 < s.size then (0, 12) else match numR (rv (runesOf s)) 0 with
    | none => (0, 12)
    | some n => if strOfNums (decL n.toNat) = s then (n, 0) else (0, 12)
theorem str_ne {a b : ByteArray} (h : a ≠ b) : (a.toList == b.toList) = false := by
  rw [beq_eq_false_iff_ne, ByteArray.toList_eq, ByteArray.toList_eq]
  exact fun e => h (Go.WideShapes.bytes_inj e)
theorem decL_pos (n : Nat) : 0 < (decL n).length := by rw [decL]; split <;> simp
theorem stepN_bd (n : Int) (r : Nat) : 0 ≤ stepN n r ∧ stepN n r ≤ 18446744073709551615 := by unfold stepN; rw [IntKind.wrap_u64]; omega

set_option maxHeartbeats 4000000 in
set_option maxRecDepth 100000 in
theorem number_walk (s : ByteArray) (w : World) (hs : s.size ≤ 140737488351232) :
    Calls Tryd.prog 59 #[.string s] w fun e w' => e = .returned (.tuple #[.int .u64 (numS s).1, .int .i64 (numS s).2]) ∧ Below w.heap.size w w' := by
  obtain ⟨U, hU⟩ : ∃ U, numS s = U := ⟨_, rfl⟩
  have HU := Lib.hid hU
  rw [hU]
  clear hU
  go_enter Tryd.func59, Tryd.ntmps59
  go_wp2
  go_loopw [4] (fun v4 wr => ∃ (pos fuel : Nat) (n : Int), v4 = .int .u64 n ∧ wr.heap[w.heap.size]? = some (.stringIter s pos) ∧ Aside0 (s.size ≤ pos + fuel ∧ (pos = 0 ∨ s.size ≤ 20) ∧ (s.size ≤ 20 → numR (rv (rns s fuel pos)) n = numR (rv (runesOf s)) 0)) ∧ (0 ≤ n ∧ n ≤ 18446744073709551615) ∧ Aside0 (Below w.heap.size w wr)) (fun _ wr => s.size - wr.iterPos w.heap.size)
  case atStart => exact ⟨0, s.size, 0, rfl, iter_new w s, ⟨by omega, .inl rfl, fun _ => rfl⟩, by omega, ⟨below_iter w s⟩⟩
  case round =>
    obtain ⟨pos, fuel, n, rfl, hit, hR, hn, hB⟩ := hrel
    have hn0 := hn.1
    have hn1 := hn.2
    clear hn
    by_cases hp : pos < s.size
    · have hw1 := Lib.decode_width_pos s pos hp
      obtain ⟨f2, hf2, he2⟩ := rns_step s fuel pos hp hR.out.1
      have hnx := fun ty => Lib.run_next_any_at (P := Tryd.prog) wr w.heap.size s pos ty hit hp
      have hd3 := decode_le s pos
      have HI0 := Lib.iterAt_heap wr w.heap.size s pos (pos + (Utf8.decode s pos).2) hit
      have HB0 := Lib.below_iterAt hB.out (Nat.le_refl _) s (pos + (Utf8.decode s pos).2)
      have HM0 := iter_less hw1 hit hp
      generalize hd : Utf8.decode s pos = d at *
      obtain ⟨r, wd⟩ := d
      simp only at *
      have hR1 := hR.out.2
      rw [he2] at hR1
      simp only [rv, List.map_cons, numR] at hR1
      have HBI := Aside0.mk HB0
      have HII := Aside0.mk HI0
      have HMM : Aside0 (s.size - (pos + wd) < s.size - wr.iterPos w.heap.size) := ⟨by rwa [iterPos_of HI0] at HM0⟩
      have hF := Aside0.mk hf2
      clear hd he2 hf2 hR HI0 HB0 HM0 hB
      have hcond : (48 ≤ r ∧ r ≤ 57 ∧ s.size ≤ 20) ∨ (r < 48 ∨ 57 < r ∨ 20 < s.size) := by omega
      rcases hcond with ⟨h1, h2, h3⟩ | hbad
      · rw [if_pos ⟨h1, h2⟩] at hR1
        have HR := Aside0.mk hR1
        have t1 : ¬ (r : Int) < 48 := by omega
        have t2 : ¬ (57 : Int) < (r : Int) := by omega
        have t3 : ¬ (20 : Int) < (s.size : Int) := by omega
        have hsb := stepN_bd n r
        clear hR1 h1 h2
        go_wp2
        go_roundw
        case rel => exact ⟨pos + wd, f2, stepN n r, rfl, HII.out, ⟨hF.out, .inr h3, HR.out.2⟩, hsb, HBI⟩
        case measure => rw [iterPos_of HII.out]; exact HMM.out
      · have hU : U = (0, 12) := by
          rw [← HU.out]
          unfold numS
          by_cases h3 : 20 < s.size
          · rw [if_pos (.inr h3)]
          · rw [if_neg (by omega), show rv (runesOf s) = List.map (fun x => x.2.1) (runesOf s) from rfl, ← hR1.2 (by omega), if_neg (by omega)]
        subst hU
        clear hR1
        by_cases h1 : r < 48
        · have t1 : (r : Int) < 48 := by omega
          clear hbad
          go_wp2
          exact bodyPost_ret (v := .tuple #[.int .u64 0, .int .i64 12]) (by simp [results, Tryd.results59, go_sem]) rfl ⟨rfl, HBI.out⟩
        · have t1 : ¬ (r : Int) < 48 := by omega
          by_cases h2 : 57 < r
          · have t2 : (57 : Int) < (r : Int) := by omega
            clear hbad
            go_wp2
            exact bodyPost_ret (v := .tuple #[.int .u64 0, .int .i64 12]) (by simp [results, Tryd.results59, go_sem]) rfl ⟨rfl, HBI.out⟩
          · have t2 : ¬ (57 : Int) < (r : Int) := by omega
            have t3 : (20 : Int) < (s.size : Int) := by omega
            clear hbad
            go_wp2
            exact bodyPost_ret (v := .tuple #[.int .u64 0, .int .i64 12]) (by simp [results, Tryd.results59, go_sem]) rfl ⟨rfl, HBI.out⟩
    · have hnx := fun ty => Lib.run_next_end_at (P := Tryd.prog) wr w.heap.size s pos ty hit hp
      have hR1 := hR.out.2
      rw [rns_end s fuel pos hp] at hR1
      simp only [rv, List.map_nil, numR] at hR1
      have h20 : s.size ≤ 20 := by omega
      have hnum := hR1.2 h20
      have cd := Lib.hid (fun W => octet_Decimal.calls n (strOfNums (decL n.toNat)) W (by unfold octet_Decimal.f; rw [if_pos hn0, if_pos (by omega)]))
      have hHU := HU.out
      unfold numS at hHU
      rw [show rv (runesOf s) = List.map (fun x => x.2.1) (runesOf s) from rfl, ← hnum] at hHU
      simp only at hHU
      by_cases he : strOfNums (decL n.toNat) = s
      · have hne : s.size ≠ 0 := by rw [← he, strOfNums_size]; have := decL_pos n.toNat; omega
        rw [if_neg (by omega), if_pos he] at hHU
        subst hHU
        rw [he] at cd
        clear hR1 hR hnum he
        go_wp2_with (first
          | (go_at_call 52; refine (cd.out _).mono ?_; rintro e v1 ⟨rfl, hb1⟩)
          | fail)
        exact bodyPost_ret (v := .tuple #[.int .u64 n, .int .i64 0]) (by simp [results, Tryd.results59, go_sem]) rfl ⟨rfl, hB.out.trans (hb1.mono hB.out.size)⟩
      · have hU : U = (0, 12) := by
          rw [if_neg he, ite_self] at hHU
          exact hHU.symm
        subst hU
        clear hR1 hR hnum hHU
        have te := str_ne he
        generalize strOfNums (decL n.toNat) = D at *
        go_wp2_with (first
          | (go_at_call 52; refine (cd.out _).mono ?_; rintro e v1 ⟨rfl, hb1⟩)
          | fail)
        exact bodyPost_ret (v := .tuple #[.int .u64 0, .int .i64 12]) (by simp [results, Tryd.results59, go_sem]) rfl ⟨rfl, hB.out.trans (hb1.mono hB.out.size)⟩
end Go.Proofs.YtpdinahdcedmkaaDoor.Ext
