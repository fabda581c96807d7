import Derived.Test.YtpdinahdcedmkaaDoorQuote
/- octet.Unhex: the bytes of digits, or the place of the first rune that is none. -/
namespace Go.Proofs.YtpdinahdcedmkaaDoor.Ext
set_option linter.unusedVariables false
open Go.RowKit Go.Proofs.YtpdinahdcedmkaaDoorW.PrintWords Go.Proofs.YtpdinahdcedmkaaDoorW.PrintLast Go.Proofs.YtpdinahdcedmkaaDoorW.PrintMore

/-- is a rune a digit; what it is worth -/
def isd (r : Nat) : Bool := (decide (48 ≤ r) && decide (r ≤ 57)) || (decide (97 ≤ r) && decide (r ≤ 102))
def dv (r : Nat) : Int := if r ≤ 57 then (r : Int) - 48 else (r : Int) - 87
/-- digits, two to a byte; an odd one is the high half -/
def pk : List Int → List Int
  | [] => []
  | [a] => [a * 16]
  | a :: b :: t => (a * 16 + b) :: pk t
theorem pk_len : ∀ l : List Int, (pk l).length = (l.length + 1) / 2
  | [] => rfl
  | [a] => by simp [pk]
  | a :: b :: t => by simp only [pk, List.length_cons]; rw [pk_len t]; omega
theorem pk_even : ∀ (l : List Int) (d : Int), l.length % 2 = 0 → pk (l ++ [d]) = pk l ++ [d * 16]
  | [], d, _ => rfl
  | [a], d, h => by simp at h
  | a :: b :: t, d, h => by
    simp only [pk, List.cons_append]
    rw [pk_even t d (by simp at h; omega)]
theorem pk_odd : ∀ (l : List Int) (d : Int), l.length % 2 = 1 → pk (l ++ [d]) = (pk l).set (l.length / 2) ((pk l).getD (l.length / 2) 0 + d)
  | [], d, h => by simp at h
  | [a], d, h => by simp [pk]
  | a :: b :: t, d, h => by
    simp only [pk, List.cons_append, List.length_cons]
    rw [pk_odd t d (by simp at h; omega)]
    have : (t.length + 1 + 1) / 2 = t.length / 2 + 1 := by omega
    rw [this]
    simp
/-- at an odd number of digits the last byte is a high half -/
theorem pk_last : ∀ (l : List Int), l.length % 2 = 1 → (∀ x ∈ l, 0 ≤ x ∧ x < 16) → ∃ a : Int, 0 ≤ a ∧ a < 16 ∧ (pk l).getD (l.length / 2) 0 = a * 16
  | [], h, _ => by simp at h
  | [a], h, hb => ⟨a, (hb a (by simp)).1, (hb a (by simp)).2, by simp [pk]⟩
  | a :: b :: t, h, hb => by
    obtain ⟨c, h0, h1, h2⟩ := pk_last t (by simp at h; omega) (fun x hx => hb x (by simp [hx]))
    refine ⟨c, h0, h1, ?_⟩
    simp only [pk, List.length_cons]
    have : (t.length + 1 + 1) / 2 = t.length / 2 + 1 := by omega
    rw [this]
    simpa using h2
/-- The answer, from the runes: ds: digits so far. -/
def unhexR (ds : List Int) : List Nat → List Int × Int × Int
  | [] => if ds.length % 2 = 1 then ([], ds.length, 10) else (pk ds, ds.length, 0)
  | r :: t => if isd r = true then unhexR (ds ++ [dv r]) t else ([], ds.length, 10)
def rv (l : List (Nat × Nat × Nat)) : List Nat := l.map (·.2.1)
def unhexS (s : ByteArray) : List Int × Int × Int := unhexR [] (rv (runesOf s))
theorem dv_bd {r : Nat} (h : isd r = true) : 0 ≤ dv r ∧ dv r < 16 := by
  unfold isd at h; unfold dv
  simp at h
  split <;> omega
theorem or_low (a d : Int) (h0 : 0 ≤ a) (h1 : a < 16) (h2 : 0 ≤ d) (h3 : d < 16) : Go.bits .or .u8 (a * 16) d = a * 16 + d := by
  obtain ⟨m, rfl⟩ := Int.eq_ofNat_of_zero_le h0
  obtain ⟨n, rfl⟩ := Int.eq_ofNat_of_zero_le h2
  have : ∀ (x y : Fin 16), Go.bits .or .u8 (((x.val : Nat) : Int) * 16) ((y.val : Nat) : Int) = ((x.val : Nat) : Int) * 16 + ((y.val : Nat) : Int) := by decide +kernel
  exact this ⟨m, by omega⟩ ⟨n, by omega⟩

set_option maxHeartbeats 1000000 in
theorem c_digit (r : Nat) (w : World) (h : r ≤ 2147483647) :
    Calls Tryd.prog 60 #[.int .i32 r] w fun e w' => e = .returned (.tuple #[.int .u8 (if isd r = true then dv r else 0), .bool (isd r)]) ∧ w' = w := by
  by_cases a : 48 ≤ r ∧ r ≤ 57
  · have e : isd r = true := by simp [isd, a]
    have e2 : dv r = (r : Int) - 48 := by unfold dv; rw [if_pos a.2]
    rw [e, if_pos rfl, e2]
    have a1 : (48 : Int) ≤ r := by omega
    have a2 : (r : Int) ≤ 57 := by omega
    clear e e2 a
    go_enter Tryd.func60, Tryd.ntmps60
    go_wp2
    go_ret2
    exact ⟨rfl, rfl⟩
  · by_cases b : 97 ≤ r ∧ r ≤ 102
    · have e : isd r = true := by simp [isd, b]
      have e2 : dv r = (r : Int) - 97 + 10 := by unfold dv; rw [if_neg (by omega)]; omega
      rw [e, if_pos rfl, e2]
      have a1 : (48 : Int) ≤ r := by omega
      have a2 : ¬ (r : Int) ≤ 57 := by omega
      have a3 : (97 : Int) ≤ r := by omega
      have a4 : (r : Int) ≤ 102 := by omega
      clear e e2 a b
      go_enter Tryd.func60, Tryd.ntmps60
      go_wp2
      go_ret2
      exact ⟨rfl, rfl⟩
    · have e : isd r = false := by
        unfold isd
        rw [Bool.eq_false_iff]
        simp
        omega
      rw [e, if_neg (by decide)]
      have hr : (r : Int) ≤ 2147483647 := by omega
      clear e
      by_cases c : (48 : Int) ≤ r
      · have c2 : ¬ (r : Int) ≤ 57 := by omega
        by_cases d : (97 : Int) ≤ r
        · have d2 : ¬ (r : Int) ≤ 102 := by omega
          clear a b
          go_enter Tryd.func60, Tryd.ntmps60
          go_wp2
          go_ret2
          exact ⟨rfl, rfl⟩
        · clear a b
          go_enter Tryd.func60, Tryd.ntmps60
          go_wp2
          go_ret2
          exact ⟨rfl, rfl⟩
      · have d : ¬ (97 : Int) ≤ r := by omega
        clear a b
        go_enter Tryd.func60, Tryd.ntmps60
        go_wp2
        go_ret2
        exact ⟨rfl, rfl⟩
theorem iter_grownR {w w' : World} {v : Value} {k : Nat} {s : ByteArray} {pos base : Nat} {e : TypeId} {ok : Nat → Prop} {xs : List Int} (h : Kd.R (Kd.int .u8) e w base ok v xs) (hg : w.grownBy w' v.ownBlock) (hit : w.heap[k]? = some (.stringIter s pos)) : w'.heap[k]? = some (.stringIter s pos) :=
  iter_grown (Kd.own_of_R h) hg hit
theorem R_iterAt {w : World} {v : Value} {k : Nat} {s : ByteArray} {pos base : Nat} {e : TypeId} {xs : List Int} (h : Kd.R (Kd.int .u8) e w base (fun _ => True) v xs) (hk : w.heap[k]? = some (.stringIter s pos)) (p : Nat) : Kd.R (Kd.int .u8) e (w.iterAt k s p) base (fun _ => True) v xs :=
  Kd.R_of_own (row_iterAt (Kd.own_of_R h) hk p) (fun _ _ => trivial)

theorem iter_setCell {w : World} {g k j pos : Nat} {s : ByteArray} {cs : Array Value} {e : TypeId} {v : Value} (hg : w.heap[g]? = some (.cells cs e)) (hk : w.heap[k]? = some (.stringIter s pos)) : (w.setCell ⟨g, j, none⟩ v).heap[k]? = some (.stringIter s pos) := by
  have hne : g ≠ k := by rintro rfl; rw [hg] at hk; cases hk
  exact (Below.heap_setCell w ⟨g, j, none⟩ v k (Ne.symm hne)).trans hk
set_option maxHeartbeats 4000000 in
set_option maxRecDepth 100000 in
theorem unhex_walk (s : ByteArray) (w : World) (hs : s.size ≤ 140737488351232) :
    Calls Tryd.prog 40 #[.string s] w fun e w' => ∃ v : Value, e = .returned (.tuple #[v, .int .i64 (unhexS s).2.1, .int .i64 (unhexS s).2.2]) ∧ Kd.R (Kd.int .u8) 5 w' w.heap.size (fun _ => True) v (unhexS s).1 ∧ Below w.heap.size w w' := by
  obtain ⟨U, hU⟩ : ∃ U, unhexS s = U := ⟨_, rfl⟩
  have HU := Lib.hid hU
  rw [hU]
  clear hU
  have hnl := rns_len s s.size 0
  go_enter Tryd.func40, Tryd.ntmps40
  go_wp2
  go_loopw [5, 6] (fun v5 v6 wr => ∃ (pos fuel : Nat) (ds : List Int), v6 = .int .i64 (ds.length : Int) ∧ wr.heap[w.heap.size + 1]? = some (.stringIter s pos) ∧ Aside0 (Kd.R (Kd.int .u8) 5 wr w.heap.size (fun _ => True) v5 (pk ds)) ∧ Aside0 (unhexR ds (rv (rns s fuel pos)) = U ∧ s.size ≤ pos + fuel ∧ ∀ x ∈ ds, 0 ≤ x ∧ x < 16) ∧ ds.length + (rns s fuel pos).length ≤ s.size ∧ Aside0 (Below w.heap.size w wr)) (fun _ _ wr => s.size - wr.iterPos (w.heap.size + 1))
  case atStart =>
    refine ⟨0, s.size, [], rfl, ?_, ⟨?_⟩, ⟨HU.out, by omega, by simp⟩, by simp; omega, ⟨((Below.refl _ _).alloc (Nat.le_refl _) _).alloc (by simp) _⟩⟩
    · simpa using iter_new (w.alloc (.cells #[] 5)) s
    · exact Kd.R_of_own ((World.ownsRow_lit (base := w.heap.size) (e := 5) (size := 1) w #[] 0 (Nat.le_refl _) (by simp [maxLen]) (by simp)).alloc _) (fun _ _ => trivial)
  case round =>
    obtain ⟨pos, fuel, ds, rfl, hit, hO, hR, hN, hB⟩ := hrel
    by_cases hp : pos < s.size
    · have hw1 := Lib.decode_width_pos s pos hp
      obtain ⟨f2, hf2, he2⟩ := rns_step s fuel pos hp hR.out.2.1
      have hnx := fun ty => Lib.run_next_any_at (P := Tryd.prog) wr (w.heap.size + 1) s pos ty hit hp
      have hd3 := decode_le s pos
      have HI0 := Lib.iterAt_heap wr (w.heap.size + 1) s pos (pos + (Utf8.decode s pos).2) hit
      have HB0 := Lib.below_iterAt hB.out (show w.heap.size ≤ w.heap.size + 1 by omega) s (pos + (Utf8.decode s pos).2)
      have HM0 := iter_less hw1 hit hp
      have HO0 := R_iterAt hO.out hit (pos + (Utf8.decode s pos).2)
      generalize hd : Utf8.decode s pos = d at *
      obtain ⟨r, wd⟩ := d
      simp only at *
      have hR1 := hR.out.1
      have hRd := hR.out.2.2
      rw [he2] at hR1 hN
      simp only [rv, List.map_cons, unhexR, List.length_cons] at hR1 hN
      have Cd := fun W => c_digit r W hd3
      have HBI := Aside0.mk HB0
      have HII := Aside0.mk HI0
      have HMM : Aside0 (s.size - (pos + wd) < s.size - wr.iterPos (w.heap.size + 1)) := ⟨by rwa [iterPos_of HI0] at HM0⟩
      have HOO := Aside0.mk HO0
      have hF := Aside0.mk hf2
      clear hd he2 hf2 hR HI0 HB0 HM0 HO0 hO hB
      by_cases hdg : isd r = true
      · rw [if_pos hdg] at hR1
        have hdb := dv_bd hdg
        rw [hdg, if_pos rfl] at Cd
        have cd := Lib.hid Cd
        clear Cd hdg
        have hdb0 := hdb.1
        have hdb1 := hdb.2
        generalize dv r = dd at *
        have HRD : Aside0 (∀ x ∈ ds ++ [dd], 0 ≤ x ∧ x < 16) := ⟨fun x hx => by
          rcases List.mem_append.1 hx with h | h
          · exact hRd x h
          · simp at h; subst h; exact hdb⟩
        have HR1 := Aside0.mk hR1
        have HRd := Aside0.mk hRd
        clear hR1 hRd hdb
        by_cases hev : ds.length % 2 = 0
        · have tev : (((ds.length : Int) % 2) == 0) = true := beq_iff_eq.2 (by omega)
          have hpk := Aside0.mk (pk_even ds dd hev)
          have hpl := pk_len ds
          clear hev
          go_wp2_with (first
            | (go_at_call 60; refine (cd.out _).mono ?_; rintro e w' ⟨rfl, rfl⟩)
            | ((with_reducible refine gate_builtin (b := .append) (xs := #[.tmp 28, .tmp 31]) rfl ?_)
               at_builtin
               refine Kd.R_append (Kd.int .u8) (w0 := w) w.heap.size rfl (.tmp 28) (.tmp 31) 39 5 (.int .u8 0) 1 rfl Tryd.underlying39 info_u8 rfl (by decide) (by omega) u5 (pk ds) (dd * 16) [.int .u8 (dd * 16)] (fun _ => True) (fun _ => False) rfl rfl ?aP (fun _ hk => hk.elim) ?aF ?aO ?aB ?aS ?aL ?_
               (case aP => exact rfl)
               (case aB => exact (by repeat (first | (with_reducible first | exact HBI.out | apply below_alloc | apply pw_below_drewN | apply below_drew1) | exact HBI.out)))
               (case aF => exact (fun _ _ => trivial))
               (case aO => exact (by (with_reducible repeat (first | apply Kd.R_alloc | apply Kd.R_drewN | apply Kd.R_drew)); exact HOO.out))
               (case aS => exact (below_size (by repeat (first | (with_reducible first | exact HBI.out | apply below_alloc | apply pw_below_drewN | apply below_drew1) | exact HBI.out))))
               (case aL => omega)
               intro v1 w1 ho hb hg hat
               rw [← hpk.out] at ho
               have HI1 := Aside0.mk (iter_grownR HOO.out hg HII.out)
               have HB1 := Aside0.mk hb
               have HO1 := Aside0.mk ho
               clear hg hat ho hb))
          go_roundw
          case rel => exact ⟨pos + wd, f2, ds ++ [dd], by simp, HI1.out, HO1, ⟨HR1.out, hF.out, HRD.out⟩, by simp; omega, HB1⟩
          case measure => rw [iterPos_of HI1.out]; exact HMM.out
        · have tod : (((ds.length : Int) % 2) == 0) = false := beq_eq_false_iff_ne.2 (by omega)
          have hod : ds.length % 2 = 1 := by omega
          have hpk := pk_odd ds dd hod
          obtain ⟨h8, h80, h81, h82⟩ := pk_last ds hod HRd.out
          have hpl := pk_len ds
          obtain ⟨go, co, eo, gb, gl, cl, HG⟩ := Kd.R_form HOO.out (by omega)
          subst eo
          have hi0 : (0 : Int) ≤ (ds.length : Int) / 2 := by omega
          have hi1 : (ds.length : Int) / 2 < ((pk ds).length : Int) := by omega
          have et : ((ds.length : Int) / 2).toNat = ds.length / 2 := by omega
          obtain ⟨hx, hf⟩ := Kd.R_celln 0 HOO.out ((ds.length : Int) / 2) hi0 hi1
          have hp3 := (Kd.R_putg HOO.out ((ds.length : Int) / 2) (h8 * 16 + dd)).1
          rw [et] at hx hf hp3
          have hrd : rdOf 0 (pk ds) ((ds.length : Int) / 2) = h8 * 16 := by unfold rdOf; rw [et]; exact h82
          rw [hrd] at hx
          clear hrd
          rw [h82] at hpk
          rw [← hpk] at hp3
          have hor := or_low h8 dd h80 h81 hdb0 hdb1
          have HO1 := Aside0.mk hp3
          have HB1 := Aside0.mk (below_set HBI.out gb (v := .int .u8 (h8 * 16 + dd)) (j := ds.length / 2))
          clear hp3 h82 hpk hod hev
          go_wp2_with (first
            | (go_at_call 60; refine (cd.out _).mono ?_; rintro e w' ⟨rfl, rfl⟩)
            | fail)
          have HO2 := HO1.out
          rw [hpl] at HO2
          have HI1 : ((wr.iterAt (w.heap.size + 1) s (pos + wd)).setCell ⟨go, ds.length / 2, none⟩ (.int .u8 (h8 * 16 + dd))).heap[w.heap.size + 1]? = some (.stringIter s (pos + wd)) := (iter_setCell HG HII.out)
          go_roundw
          case rel => exact ⟨pos + wd, f2, ds ++ [dd], by simp, HI1, ⟨HO2⟩, ⟨HR1.out, hF.out, HRD.out⟩, by simp; omega, HB1⟩
          case measure => rw [iterPos_of HI1]; exact HMM.out
      · have hdf : isd r = false := by simpa using hdg
        rw [if_neg hdg] at hR1
        rw [hdf, if_neg (by decide)] at Cd
        have cd := Lib.hid Cd
        subst hR1
        clear Cd hdg hdf
        go_wp2_with (first
          | (go_at_call 60; refine (cd.out _).mono ?_; rintro e w' ⟨rfl, rfl⟩)
          | fail)
        exact bodyPost_ret (v := .tuple #[.slice none 0 0, .int .i64 ds.length, .int .i64 10]) (by simp [results, Tryd.results40, go_sem]) rfl ⟨_, rfl, Kd.R_nil _ _ _ _ _, HBI.out⟩
    · have hnx := fun ty => Lib.run_next_end_at (P := Tryd.prog) wr (w.heap.size + 1) s pos ty hit hp
      have hR1 := hR.out.1
      rw [rns_end s fuel pos hp] at hR1
      simp only [rv, List.map_nil, unhexR] at hR1
      by_cases hod : ds.length % 2 = 1
      · rw [if_pos hod] at hR1
        subst hR1
        have tod : (((ds.length : Int) % 2) == 1) = true := beq_iff_eq.2 (by omega)
        clear hod
        go_wp2
        exact bodyPost_ret (v := .tuple #[.slice none 0 0, .int .i64 ds.length, .int .i64 10]) (by simp [results, Tryd.results40, go_sem]) rfl ⟨_, rfl, Kd.R_nil _ _ _ _ _, hB.out⟩
      · rw [if_neg hod] at hR1
        subst hR1
        have tod : (((ds.length : Int) % 2) == 1) = false := beq_eq_false_iff_ne.2 (by omega)
        clear hod
        go_wp2
        exact bodyPost_ret (v := .tuple #[u5, .int .i64 ds.length, .int .i64 0]) (by simp [results, Tryd.results40, go_sem]) rfl ⟨_, rfl, hO.out, hB.out⟩
end Go.Proofs.YtpdinahdcedmkaaDoor.Ext

