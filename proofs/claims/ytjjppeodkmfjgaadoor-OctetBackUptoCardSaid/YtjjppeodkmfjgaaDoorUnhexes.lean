/- liveryref01.Unhex: what octet.Unhex answers. -/
import Derived.Test.YtjjppeodkmfjgaaDoorHexes
namespace Go.Proofs.YtjjppeodkmfjgaaDoor.Ext
set_option linter.unusedVariables false
open Go.RowKit Go.Proofs.YtjjppeodkmfjgaaDoorW.PrintWords Go.Proofs.YtjjppeodkmfjgaaDoorW.PrintLast Go.Proofs.YtjjppeodkmfjgaaDoorW.PrintMore

theorem rdigit_none (r : Nat) (h1 : ¬ (48 ≤ r ∧ r ≤ 57)) (h2 : ¬ (97 ≤ r ∧ r ≤ 102)) : ∀ m i : Nat, i + m = 16 → P.liveryref01_digit.l0 (m + 1) (r : Int) (i : Int) = some (-1)
  | 0, i, h => by
    unfold P.liveryref01_digit.l0
    rw [if_neg (by omega)]
  | m + 1, i, h => by
    have hd : hexd (i : Int) ≠ (r : Int) ∧ 0 ≤ hexd (i : Int) ∧ hexd (i : Int) ≤ 102 := by unfold hexd; split <;> omega
    unfold P.liveryref01_digit.l0
    rw [if_pos (by omega), if_pos (by omega), bt_hex _ (by omega) (by omega), (i32_w _).symm.trans (IntWalk.i32_in _ (by omega)), if_neg hd.1, w64 _ (by omega)]
    have := rdigit_none r h1 h2 m (i + 1) (by omega)
    push_cast at this
    exact this
theorem rdigit_f (r : Nat) (h : r ≤ 2147483647) : P.liveryref01_digit.f 17 (r : Int) = some (if isd r = true then dv r else -1) := by
  by_cases h1 : 48 ≤ r ∧ r ≤ 57
  · obtain rfl | rfl | rfl | rfl | rfl | rfl | rfl | rfl | rfl | rfl : r = 48 ∨ r = 49 ∨ r = 50 ∨ r = 51 ∨ r = 52 ∨ r = 53 ∨ r = 54 ∨ r = 55 ∨ r = 56 ∨ r = 57 := by omega
    all_goals decide +kernel
  · by_cases h2 : 97 ≤ r ∧ r ≤ 102
    · obtain rfl | rfl | rfl | rfl | rfl | rfl : r = 97 ∨ r = 98 ∨ r = 99 ∨ r = 100 ∨ r = 101 ∨ r = 102 := by omega
      all_goals decide +kernel
    · have e : isd r = false := by
        unfold isd
        rw [Bool.eq_false_iff]
        simp
        omega
      rw [e, if_neg (by decide)]
      exact rdigit_none r h1 h2 16 0 rfl
theorem c_rdigit (r : Nat) (w : World) (h : r ≤ 2147483647) :
    Calls Tryd.prog 47 #[.int .i32 r] w fun e w' => e = .returned (.int .i64 (if isd r = true then dv r else -1)) ∧ Drawn0 w w' :=
  P.liveryref01_digit.calls 17 r _ w (rdigit_f r h)

theorem iter_drawn {W W' : World} {k : Nat} {x : Option Obj} (h : W.heap[k]? = x) (hd : Drawn0 W W') : W'.heap[k]? = x := by obtain ⟨n, rfl⟩ := hd; simpa using h
theorem R_drawn {W W' : World} {b e : Nat} {ok : Nat → Prop} {v : Value} {l : List Int} (h : Kd.R (Kd.int .u8) e W b ok v l) (hd : Drawn0 W W') : Kd.R (Kd.int .u8) e W' b ok v l := by obtain ⟨n, rfl⟩ := hd; exact Kd.R_drewN h n
theorem below_drawn {b : Nat} {w W W' : World} (h : Below b w W) (hd : Drawn0 W W') : Below b w W' := by obtain ⟨n, rfl⟩ := hd; exact pw_below_drewN h n
theorem pk_even2 (l : List Int) (a d : Int) (h : l.length % 2 = 0) : pk (l ++ [a] ++ [d]) = pk l ++ [a * 16 + d] := by
  rw [pk_odd (l ++ [a]) d (by simp; omega), pk_even l a h]
  have h1 : (l ++ [a]).length / 2 = (pk l).length := by rw [pk_len, List.length_append, List.length_singleton]
  rw [h1]
  simp
set_option maxHeartbeats 4000000 in
set_option maxRecDepth 100000 in
theorem refUnhex_walk (s : ByteArray) (w : World) (hs : s.size ≤ 140737488351232) :
    Calls Tryd.prog 12 #[.string s] w fun e w' => ∃ v : Value, e = .returned (.tuple #[v, .int .i64 (unhexS s).2.1, .int .i64 (unhexS s).2.2]) ∧ Kd.R (Kd.int .u8) 5 w' w.heap.size (fun _ => True) v (unhexS s).1 ∧ Below w.heap.size w w' := by
  obtain ⟨U, hU⟩ : ∃ U, unhexS s = U := ⟨_, rfl⟩
  have HU := Lib.hid hU
  rw [hU]
  clear hU
  have hnl := rns_len s s.size 0
  go_enter Tryd.func12, Tryd.ntmps12
  go_wp2
  go_loopw [5, 6, 7] (fun v5 v6 v7 wr => ∃ (pos fuel : Nat) (ds : List Int) (hi : Int), v7 = .int .i64 hi ∧ wr.heap[w.heap.size + 1]? = some (.stringIter s pos) ∧ Aside0 (Kd.R (Kd.int .u8) 5 wr w.heap.size (fun _ => True) v5 (pk ds)) ∧ Aside0 (s.size ≤ pos + fuel) ∧ (ds.length % 2 = 0 ∧ 0 ≤ hi ∧ hi < 16) ∧ ds.length + (rns s fuel pos).length ≤ s.size ∧ Aside0 (Below w.heap.size w wr) ∧ ((v6 = .int .i64 (ds.length : Int) ∧ Aside0 (unhexR ds (rv (rns s fuel pos)) = U)) ∨ (v6 = .int .i64 ((ds.length : Int) + 1) ∧ Aside0 (unhexR (ds ++ [hi]) (rv (rns s fuel pos)) = U) ∧ ds.length + 1 + (rns s fuel pos).length ≤ s.size))) (fun _ _ _ wr => s.size - wr.iterPos (w.heap.size + 1))
  case atStart =>
    refine ⟨0, s.size, [], 0, rfl, ?_, ⟨?_⟩, ⟨by omega⟩, by simp, by simpa using hnl, ⟨((Below.refl _ _).alloc (Nat.le_refl _) _).alloc (by simp) _⟩, .inl ⟨rfl, ⟨HU.out⟩⟩⟩
    · simpa using iter_new (w.alloc (.cells #[] 5)) s
    · exact Kd.R_of_own ((World.ownsRow_lit (base := w.heap.size) (e := 5) (size := 1) w #[] 0 (Nat.le_refl _) (by simp [maxLen]) (by simp)).alloc _) (fun _ _ => trivial)
  case round =>
    obtain ⟨pos, fuel, ds, hi, rfl, hit, hO, hF0, hE, hN, hB, hcase⟩ := hrel
    have hev := hE.1
    have hi0 := hE.2.1
    have hi1 := hE.2.2
    clear hE
    by_cases hp : pos < s.size
    · have hw1 := Lib.decode_width_pos s pos hp
      obtain ⟨f2, hf2, he2⟩ := rns_step s fuel pos hp hF0.out
      have hnx := fun ty => Lib.run_next_any_at (P := Tryd.prog) wr (w.heap.size + 1) s pos ty hit hp
      have hd3 := decode_le s pos
      have HI0 := Lib.iterAt_heap wr (w.heap.size + 1) s pos (pos + (Utf8.decode s pos).2) hit
      have HB0 := Lib.below_iterAt hB.out (show w.heap.size ≤ w.heap.size + 1 by omega) s (pos + (Utf8.decode s pos).2)
      have HM0 := iter_less hw1 hit hp
      have HO0 := R_iterAt hO.out hit (pos + (Utf8.decode s pos).2)
      generalize hd : Utf8.decode s pos = d at *
      obtain ⟨r, wd⟩ := d
      simp only at *
      rw [he2] at hcase hN
      simp only [rv, List.map_cons, unhexR, List.length_cons] at hcase hN
      have Cd := fun W => c_rdigit r W hd3
      have HBI := Aside0.mk HB0
      have HII := Aside0.mk HI0
      have HMM : Aside0 (s.size - (pos + wd) < s.size - wr.iterPos (w.heap.size + 1)) := ⟨by rwa [iterPos_of HI0] at HM0⟩
      have HOO := Aside0.mk HO0
      have hF := Aside0.mk hf2
      clear hd he2 hf2 HI0 HB0 HM0 HO0 hO hB hF0
      by_cases hdg : isd r = true
      · simp only [if_pos hdg] at hcase
        have hdb := dv_bd hdg
        rw [hdg, if_pos rfl] at Cd
        have cd := Lib.hid Cd
        clear Cd hdg
        have hdb0 := hdb.1
        have hdb1 := hdb.2
        generalize dv r = dd at *
        clear hdb
        rcases hcase with ⟨rfl, hR⟩ | ⟨rfl, hR, hN2⟩
        · have tev : (((ds.length : Int) % 2) == 0) = true := beq_iff_eq.2 (by omega)
          go_wp2_with (first
            | (go_at_call 47
               refine (cd.out _).mono ?_
               rintro e v1 ⟨rfl, hdr⟩
               have HI1 := Aside0.mk (iter_drawn HII.out hdr)
               have HO1 := Aside0.mk (R_drawn HOO.out hdr)
               have HB1 := Aside0.mk (below_drawn HBI.out hdr)
               clear hdr)
            | fail)
          go_roundw
          case rel => exact ⟨pos + wd, f2, ds, dd, rfl, HI1.out, HO1, hF, ⟨hev, hdb0, hdb1⟩, by omega, HB1, .inr ⟨rfl, hR, by omega⟩⟩
          case measure => rw [iterPos_of HI1.out]; exact HMM.out
        · have tev : ((((ds.length : Int) + 1) % 2) == 0) = false := beq_eq_false_iff_ne.2 (by omega)
          have hpl := pk_len ds
          have hpk := Aside0.mk (pk_even2 ds hi dd hev)
          have hw8 : IntKind.u8.wrap (16 * hi + dd) = hi * 16 + dd := by rw [IntWalk.u8_in _ (by omega)]; omega
          go_wp2_with (first
            | (go_at_call 47
               refine (cd.out _).mono ?_
               rintro e v1 ⟨rfl, hdr⟩
               have HI1 := Aside0.mk (iter_drawn HII.out hdr)
               have HO1 := Aside0.mk (R_drawn HOO.out hdr)
               have HB1 := Aside0.mk (below_drawn HBI.out hdr)
               clear hdr)
            | ((with_reducible refine gate_builtin (b := .append) (xs := #[.tmp 26, .tmp 32]) rfl ?_)
               at_builtin
               refine Kd.R_append (Kd.int .u8) (w0 := w) w.heap.size rfl (.tmp 26) (.tmp 32) 22 5 (.int .u8 0) 1 rfl Tryd.underlying22 info_u8 rfl (by decide) (by omega) u5 (pk ds) (hi * 16 + dd) [.int .u8 (hi * 16 + dd)] (fun _ => True) (fun _ => False) rfl rfl ?aP (fun _ hk => hk.elim) ?aF ?aO ?aB ?aS ?aL ?_
               (case aP => exact rfl)
               (case aB => exact (by repeat (first | (with_reducible first | exact HB1.out | apply below_alloc | apply pw_below_drewN | apply below_drew1) | exact HB1.out)))
               (case aF => exact (fun _ _ => trivial))
               (case aO => exact (by (with_reducible repeat (first | apply Kd.R_alloc | apply Kd.R_drewN | apply Kd.R_drew)); exact HO1.out))
               (case aS => exact (below_size (by repeat (first | (with_reducible first | exact HB1.out | apply below_alloc | apply pw_below_drewN | apply below_drew1) | exact HB1.out))))
               (case aL => omega)
               intro v2 w2 ho hb hg hat
               rw [← hpk.out] at ho
               have HI2 := Aside0.mk (iter_grownR HO1.out hg HI1.out)
               have HB2 := Aside0.mk hb
               have HO2 := Aside0.mk ho
               clear hg hat ho hb))
          have hU2 : Aside0 (unhexR (ds ++ [hi] ++ [dd]) (rv (rns s f2 (pos + wd))) = U) := hR
          go_roundw
          case rel => exact ⟨pos + wd, f2, ds ++ [hi] ++ [dd], hi, rfl, HI2.out, HO2, hF, by simp; omega, by simp; omega, HB2, .inl ⟨by simp; omega, hU2⟩⟩
          case measure => rw [iterPos_of HI2.out]; exact HMM.out
      · simp only [if_neg hdg] at hcase
        have hdf : isd r = false := by simpa using hdg
        rw [hdf, if_neg (by decide)] at Cd
        have cd := Lib.hid Cd
        clear Cd hdg hdf
        rcases hcase with ⟨rfl, hR⟩ | ⟨rfl, hR, hN2⟩
        · have hR1 := hR.out
          subst hR1
          go_wp2_with (first
            | (go_at_call 47
               refine (cd.out _).mono ?_
               rintro e v1 ⟨rfl, hdr⟩
               have HI1 := Aside0.mk (iter_drawn HII.out hdr)
               have HO1 := Aside0.mk (R_drawn HOO.out hdr)
               have HB1 := Aside0.mk (below_drawn HBI.out hdr)
               clear hdr)
            | fail)
          exact bodyPost_ret (v := .tuple #[.slice none 0 0, .int .i64 ds.length, .int .i64 10]) (by simp [results, Tryd.results12, go_sem]) rfl ⟨_, rfl, Kd.R_nil _ _ _ _ _, HB1.out⟩
        · have hR1 := hR.out
          subst hR1
          go_wp2_with (first
            | (go_at_call 47
               refine (cd.out _).mono ?_
               rintro e v1 ⟨rfl, hdr⟩
               have HI1 := Aside0.mk (iter_drawn HII.out hdr)
               have HO1 := Aside0.mk (R_drawn HOO.out hdr)
               have HB1 := Aside0.mk (below_drawn HBI.out hdr)
               clear hdr)
            | fail)
          exact bodyPost_ret (v := .tuple #[.slice none 0 0, .int .i64 ((ds.length : Int) + 1), .int .i64 10]) (by simp [results, Tryd.results12, go_sem]) rfl ⟨_, by simp, Kd.R_nil _ _ _ _ _, HB1.out⟩
    · have hnx := fun ty => Lib.run_next_end_at (P := Tryd.prog) wr (w.heap.size + 1) s pos ty hit hp
      rw [rns_end s fuel pos hp] at hcase
      simp only [rv, List.map_nil, unhexR] at hcase
      rcases hcase with ⟨rfl, hR⟩ | ⟨rfl, hR, hN2⟩
      · have hR1 := hR.out
        rw [if_neg (by omega)] at hR1
        subst hR1
        have tod : (((ds.length : Int) % 2) == 1) = false := beq_eq_false_iff_ne.2 (by omega)
        go_wp2
        exact bodyPost_ret (v := .tuple #[u5, .int .i64 ds.length, .int .i64 0]) (by simp [results, Tryd.results12, go_sem]) rfl ⟨_, rfl, hO.out, hB.out⟩
      · have hR1 := hR.out
        rw [if_pos (by simp; omega)] at hR1
        subst hR1
        have tod : ((((ds.length : Int) + 1) % 2) == 1) = true := beq_iff_eq.2 (by omega)
        go_wp2
        exact bodyPost_ret (v := .tuple #[.slice none 0 0, .int .i64 ((ds.length : Int) + 1), .int .i64 10]) (by simp [results, Tryd.results12, go_sem]) rfl ⟨_, by simp, Kd.R_nil _ _ _ _ _, hB.out⟩
end Go.Proofs.YtjjppeodkmfjgaaDoor.Ext
