import Derived.Test.YtpdinahdcedmkaaGreatDoorMSayS
import Derived.Lib.AppendStr
import Derived.Test.YtpdinahdcedmkaaGreatDoorMLines
/- (*strings.Builder).WriteString and Len, by hand. -/
namespace Go.Proofs.YtpdinahdcedmkaaGreatDoor.Ext
set_option linter.unusedVariables false
set_option linter.unusedSimpArgs false
open Go.RowKit Go.Proofs.YtpdinahdcedmkaaGreatDoorW.PrintWords Go.Proofs.YtpdinahdcedmkaaGreatDoorW.PrintLast Go.Proofs.YtpdinahdcedmkaaGreatDoorW.PrintMore

theorem strCells_len (s : ByteArray) : (Lib.strCells s).length = s.size := by
  unfold Lib.strCells
  rw [List.length_map, Array.length_toList]
  rfl
set_option maxHeartbeats 2000000 in
set_option maxRecDepth 100000 in
theorem c_WriteString (B b : Nat) (bs : List Value) (s : ByteArray) (w : World) (h : Lib.IsBuilder 77 5 B b bs w) (hs : 0 < s.size) (hlen : bs.length + s.size ≤ 140737488355328) (hBw : B ≤ w.heap.size) :
    Calls Tryz.prog 42 #[.pointer (some ⟨b, 0, none⟩), .string s] w fun e w' => e = .returned (.tuple #[.int .i64 s.size, .nilIface]) ∧ (Lib.BuilderAt 77 5 B b (.pointer (some ⟨b, 0, none⟩)) (bs ++ Lib.strCells s) w' ∧ Below B w w') := by
  obtain ⟨i0, hi, hz0, hz1, hz2⟩ := info_parts info_u8
  go_enter Tryz.func42, Tryz.ntmps42
  go_wp2_with (go_at_call 92; refine (c_copyCheck B b bs _ h).mono ?_)
  rintro e w1 ⟨rfl, h1, hb1⟩
  obtain ⟨hB, v, hbk, hown, hne⟩ := h1
  have c0 : w1.cell? ⟨b, 0, none⟩ = some (.pointer (some ⟨b, 0, none⟩)) := by rw [Lib.cell_of_heap hbk]; rfl
  have c1 : w1.cell? ⟨b, 1, none⟩ = some v := by rw [Lib.cell_of_heap hbk]; rfl
  go_wp2_with (at_builtin; refine Lib.wpList_append_own_string _ rfl _ _ 31 9 rfl B 5 i0 Tryz.underlying31 Tryz.underlying9 hi hz0 hz1 hz2 _ _ _ rfl hown s rfl ?c3 ?c4 ?c5 ?_)
  case c3 => unfold maxLen; omega
  case c4 => omega
  case c5 => have := hb1.size; omega
  intro v' w2 hown' hgrow _
  have hlt : b < w1.heap.size := by
    rcases Nat.lt_or_ge b w1.heap.size with h' | h'
    · exact h'
    · simp [Array.getElem?_eq_none h'] at hbk
  have hb2 : w2.heap[b]? = some (.cells #[.pointer (some ⟨b, 0, none⟩), v] 77 (0, 0)) := by
    rw [hgrow.block b hlt (fun e => hne e.symm)]
    exact hbk
  have d0 : w2.cell? ⟨b, 0, none⟩ = some (.pointer (some ⟨b, 0, none⟩)) := by rw [Lib.cell_of_heap hb2]; rfl
  have d1 : w2.cell? ⟨b, 1, none⟩ = some v := by rw [Lib.cell_of_heap hb2]; rfl
  have f1 : w2.frozen? ⟨b, 1, none⟩ = false := Lib.frozen_of_heap hb2 1
  obtain ⟨g, cap, rfl⟩ : ∃ g cap, v' = .slice (some ⟨g, 0, none⟩) (bs.length + s.size) cap := by
    rcases hown'.2 with ⟨_, h0⟩ | ⟨g, cap, cur, hv, _⟩
    · omega
    · exact ⟨g, cap, hv⟩
  go_wp2
  go_ret2
  refine ⟨rfl, ?_, ?_⟩
  · exact Lib.BuilderAt.put (T := 77) (e := 5) hB hb2 (bs' := bs ++ Lib.strCells s) (by rw [List.length_append, strCells_len s]; exact hown') (by decide)
  · exact (hb1.grown hgrow (Nat.le_trans hBw hb1.size) (fun k hk => (hown.lt k hk).1)).setCell (p := ⟨b, 1, none⟩) hB _
end Go.Proofs.YtpdinahdcedmkaaGreatDoor.Ext
/- script.Print: a plan's text. -/
namespace Go.Proofs.YtpdinahdcedmkaaGreatDoor.Ext
open Go.Proofs.YtpdinahdcedmkaaGreatDoor.P
set_option linter.unusedVariables false
set_option linter.unusedSimpArgs false
open Go.RowKit Go.Proofs.YtpdinahdcedmkaaGreatDoorW.PrintWords Go.Proofs.YtpdinahdcedmkaaGreatDoorW.PrintLast Go.Proofs.YtpdinahdcedmkaaGreatDoorW.PrintMore Go.Proofs.YtpdinahdcedmkaaGreatDoor.Spec

set_option maxHeartbeats 4000000 in
set_option maxRecDepth 100000 in
theorem c_first (p : Plan) (cp : List Value) (w : World) (hP : k25.K w p cp) : Calls Tryz.prog 43 #[.agg cp.toArray] w (StrB (firstB p) w) := by
  have P0 := Aside0.mk (Bx.new w cp 25)
  obtain ⟨B2, d2, B3, d3, rfl, m2, e2, m3, e3⟩ := k25_open hP
  clear hP m2 e2 m3 e3
  have c1 := Lib.hid (fun W => c_digits p.f0 W)
  have c2 := Lib.hid (fun W => c_digits p.f1 W)
  have z1 := decS_size _ (wrap_u64_bd p.f0).2
  have z2 := decS_size _ (wrap_u64_bd p.f1).2
  unfold firstB
  generalize decS (IntKind.u64.wrap p.f0) = R1 at *
  generalize decS (IntKind.u64.wrap p.f1) = R2 at *
  have f1 : 7 + R1.size ≤ 9223372036854775807 := by omega
  have f2 : (⟨#[108, 105, 118, 101, 114, 121, 32]⟩ ++ R1 : ByteArray).size + 1 ≤ 9223372036854775807 := by rw [app_size]; show 7 + _ + 1 ≤ _; omega
  have f3 : ((⟨#[108, 105, 118, 101, 114, 121, 32]⟩ ++ R1) ++ ⟨#[32]⟩ : ByteArray).size + R2.size ≤ 9223372036854775807 := by rw [app_size, app_size]; show 7 + _ + 1 + _ ≤ _; omega
  have k1 := fun W => run_string_add_sum (P := Tryz.prog) W (⟨#[108, 105, 118, 101, 114, 121, 32]⟩ : ByteArray) R1 f1
  have k2 := fun W => run_string_add_sum (P := Tryz.prog) W (⟨#[108, 105, 118, 101, 114, 121, 32]⟩ ++ R1 : ByteArray) (⟨#[32]⟩ : ByteArray) f2
  have k3 := fun W => run_string_add_sum (P := Tryz.prog) W ((⟨#[108, 105, 118, 101, 114, 121, 32]⟩ ++ R1) ++ ⟨#[32]⟩ : ByteArray) R2 f3
  have r0 := P0.out.c 0
  have r1 := P0.out.c 1
  have r2 := P0.out.c 2
  have r3 := P0.out.c 3
  go_enter Tryz.func43, Tryz.ntmps43
  go_upto_region 1 with fail
  refine wp_region_held_drew (S := HP1 w 25 w.heap.size (.int .i64 p.f0) (.int .i64 p.f1) (.slice B2 p.f2.length d2) (.slice B3 p.f3.length d3)) (by kernel_rfl) (hp1_mk P0.out |>.next (Below.drew (Below.refl _ _))) (fun hHeld => ?_)
  apply tkH 0 (hy := by (intro w hSw; (try dsimp only at hSw); (try simp only [HP1] at hSw); go_simp; (try with_reducible rfl)))
  apply tkH 1 (hy := by (intro w hSw; (try dsimp only at hSw); (try simp only [HP1] at hSw); go_simp; (try with_reducible rfl)))
  apply tkH 5 (hy := by (intro w hSw; (try dsimp only at hSw); (try simp only [HP1] at hSw); go_simp; (try with_reducible rfl)))
  apply tkH 6 (hy := by (intro w hSw; (try dsimp only at hSw); (try simp only [HP1] at hSw); go_simp; (try with_reducible rfl)))
  refine wpAnyH_ready (rs := [2]) (by kernel_rfl) (by simp) ?_
  refine AllReadyH.cons rfl (fun K hK => ?_) AllReadyH.nil
  go_simp
  go_at_call 93
  with_reducible refine (c1.out _).mono ?_
  rintro e u1 ⟨rfl, hbz⟩
  try go_wp2_with fail
  refine hK.out _ _ (hHeld.next hbz) ?_
  clear hHeld hbz hK K
  intro hHeld
  try simp only [Act.put, List.setIfInBounds_toArray, List.set_cons_zero, List.set_cons_succ, List.getElem_toArray, List.getElem_cons_succ, List.getElem_cons_zero]
  apply tkH 3 (hy := by (intro w hSw; (try dsimp only at hSw); (try simp only [HP1] at hSw); go_simp; (try with_reducible rfl)))
  apply tkH 4 (hy := by (intro w hSw; (try dsimp only at hSw); (try simp only [HP1] at hSw); go_simp; (try with_reducible rfl)))
  refine wpAnyH_ready (rs := [7]) (by kernel_rfl) (by simp) ?_
  refine AllReadyH.cons rfl (fun K hK => ?_) AllReadyH.nil
  go_simp
  go_at_call 93
  with_reducible refine (c2.out _).mono ?_
  rintro e u2 ⟨rfl, hbz⟩
  try go_wp2_with fail
  refine hK.out _ _ (hHeld.next hbz) ?_
  clear hHeld hbz hK K
  intro hHeld
  try simp only [Act.put, List.setIfInBounds_toArray, List.set_cons_zero, List.set_cons_succ, List.getElem_toArray, List.getElem_cons_succ, List.getElem_cons_zero]
  apply tkH 8 (hy := by (intro w hSw; (try dsimp only at hSw); (try simp only [HP1] at hSw); go_simp; (try with_reducible rfl)))
  apply tkH 9 (hy := by (intro w hSw; (try dsimp only at hSw); (try simp only [HP1] at hSw); go_simp; (try with_reducible rfl)))
  refine wpAnyH_done (by kernel_rfl) ?_ _
  go_wp2_with fail
  go_ret
  exact ⟨rfl, hHeld.b.hb⟩
theorem c_named (s : ByteArray) (w : World) (hs : s.size ≤ 1000) (hT : Lib.Utf8Tabs 1 2 w) : Calls Tryz.prog 44 #[.string s] w (StrB (namedB s) w) := by
  have cq := Lib.hid (quote_walk s w (by omega) hT)
  have z := quoteS_size s
  unfold namedB
  generalize quoteS s = q at *
  have f1 : 7 + q.size ≤ 9223372036854775807 := by omega
  clear hT
  go_enter Tryz.func44, Tryz.ntmps44
  go_wp2_with (first
    | (go_at_call 94
       with_reducible refine cq.out.mono ?_
       rintro e v ⟨rfl, hb⟩)
    | fail)
  go_ret
  exact ⟨rfl, hb⟩
set_option maxHeartbeats 16000000 in
set_option maxRecDepth 100000 in
theorem c_PrintNo (p : Plan) (cp : List Value) (w : World) (hP : k25.K w p cp) (h : PrintOk p) (hck : checkS p = false) :
    Calls Tryz.prog 16 #[.agg cp.toArray] w (StrE ⟨#[]⟩ 270 w) := by
  have cC := fun W (hW : Below w.heap.size w W) => c_Check p cp W (k25.K_below hW hP) h.bd
  rw [show checkE p = 270 by unfold checkE; rw [hck]; rfl] at cC
  replace cC := Lib.hid cC
  have P0 := Aside0.mk (Bx.new w cp 25)
  obtain ⟨B2, d2, B3, d3, rfl, m2, e2, m3, e3⟩ := k25_open hP
  clear hP h hck m2 e2 m3 e3
  have r0 := P0.out.c 0
  have r1 := P0.out.c 1
  have r2 := P0.out.c 2
  have r3 := P0.out.c 3
  go_enter Tryz.func16, Tryz.ntmps16
  go_wp2_with (first
    | (go_at_call 18
       with_reducible refine (cC.out _ P0.out.hb).mono ?_
       rintro e v ⟨rfl, hb⟩
       replace P0 := Aside0.mk (P0.out.next hb)
       clear hb)
    | fail)
  go_ret2
  exact ⟨rfl, P0.out.hb⟩
set_option maxHeartbeats 32000000 in
set_option maxRecDepth 100000 in
theorem c_PrintYes (p : Plan) (cp : List Value) (w : World) (hP : k25.K w p cp) (h : PrintOk p) (hck : checkS p = true) (hT : Lib.Utf8Tabs 1 2 w) :
    Calls Tryz.prog 16 #[.agg cp.toArray] w (StrE (if 1048576 < (printB p).size then ⟨#[]⟩ else printB p) (if 1048576 < (printB p).size then 3 else 0) w) := by
  have cC := fun W (hW : Below w.heap.size w W) => c_Check p cp W (k25.K_below hW hP) h.bd
  rw [show checkE p = 0 by unfold checkE; rw [hck]; rfl] at cC
  replace cC := Lib.hid cC
  have cF := Lib.hid (fun W (hW : Below w.heap.size w W) => c_first p cp W (k25.K_below hW hP))
  have cN := Lib.hid (fun i W (hW : Below w.heap.size w W) => c_named (p.f2.getD i ByteArray.empty) W (h.nm i) (Utf8Tabs_below hT hW))
  have cL := Lib.hid (fun i hi cs W (hW : Below w.heap.size w W) (h1 : k34.K w (p.f3.getD i z34) cs) => c_line p (p.f3.getD i z34) cp cs W (k25.K_below hW hP) (k34.K_below hW h1) (h.say hck i hi) (Utf8Tabs_below hT hW))
  have cZ := Lib.hid (fun i hi => lineB_size (h.say hck i hi))
  have cNZ := Lib.hid (fun i => namedB_size _ (h.nm i))
  have cw := Lib.hid c_WriteString
  have hn16 := (check_head hck).2.1
  have hn400 := h.ac
  have hfz := firstB_size p
  obtain ⟨R, hR⟩ : ∃ R, printB p = R := ⟨_, rfl⟩
  rw [hR]
  obtain ⟨E1, hE1⟩ : ∃ E, (if 1048576 < R.size then (⟨#[]⟩ : ByteArray) else R) = E := ⟨_, rfl⟩
  obtain ⟨E2, hE2⟩ : ∃ E, (if 1048576 < R.size then (3 : Int) else 0) = E := ⟨_, rfl⟩
  rw [hE1, hE2]
  have HE1 := Lib.hid hE1
  have HE2 := Lib.hid hE2
  clear hE1 hE2
  unfold printB headB at hR
  have P0 := Aside0.mk (Bx.new w cp 25)
  obtain ⟨B2, d2, B3, d3, rfl, m2, e2, m3, e3⟩ := k25_open hP
  have HN := Aside0.mk e2
  have HC := Aside0.mk e3
  have hle2 := m2
  have hle3 := m3
  clear hP h hck hT m2 e2 m3 e3
  generalize firstB p = fb at *
  have HS := Lib.hid hR
  clear hR
  have r0 := P0.out.c 0
  have r1 := P0.out.c 1
  have r2 := P0.out.c 2
  have r3 := P0.out.c 3
  go_enter Tryz.func16, Tryz.ntmps16
  go_upto_region 5 with (first
    | (go_at_call 18
       with_reducible refine (cC.out _ P0.out.hb).mono ?_
       rintro e v0 ⟨rfl, hb⟩
       have PB := Aside0.mk (P0.out.next hb)
       clear hb)
    | fail)
  have hv0 : w.heap.size < v0.heap.size := PB.out.lt
  have HI0 := Aside0.mk (Lib.fresh_isBuilder 77 5 v0)
  have PX := Aside0.mk (PB.out.push (.cells #[.pointer none, .slice none 0 0] 77))
  have f1 : fb.size + 1 ≤ 9223372036854775807 := by omega
  have hpos : 0 < (fb ++ ⟨#[10]⟩ : ByteArray).size := by rw [app_size]; show 0 < _ + 1; omega
  have hroom : ([] : List Value).length + (fb ++ ⟨#[10]⟩ : ByteArray).size ≤ 140737488355328 := by rw [app_size]; show 0 + (_ + 1) ≤ _; omega
  clear P0 PB r0 r1 r2 r3
  have r0 := PX.out.c 0
  have r1 := PX.out.c 1
  have r2 := PX.out.c 2
  have r3 := PX.out.c 3
  go_wp2_with (first
    | (go_at_call 43
       with_reducible refine (cF.out _ PX.out.hb).mono ?_
       rintro e v1 ⟨rfl, hb⟩
       have PY := Aside0.mk (PX.out.next hb)
       have HI1 := Aside0.mk (isb_below HI0.out hb)
       clear hb)
    | (go_at_call 42
       with_reducible refine (cw.out v0.heap.size v0.heap.size _ _ _ HI1.out hpos hroom (isb_lt HI1.out)).mono ?_
       rintro e v9 ⟨rfl, hbb, hb⟩
       have HI2 := Aside0.mk hbb
       have PZ := Aside0.mk (PY.out.nextB hb hv0 (Nat.le_of_lt hv0))
       have s0 := PZ.out.c 0
       have s1 := PZ.out.c 1
       have s2 := PZ.out.c 2
       have s3 := PZ.out.c 3
       clear hbb hb)
    | fail)
  clear r0 r1 r2 r3 PX PY HI0 HI1 hpos hroom f1
  go_loopw [22] (fun v22 wr => ∃ (i : Nat) (acc : ByteArray), v22 = .int .i64 i ∧ i ≤ p.f2.length ∧ acc.size ≤ 60 + 4010 * i ∧ Aside0 (p.f3.foldl (actF p.f2) ((p.f2.drop i).foldl nameF acc) = R) ∧ Aside0 (Lib.IsBuilder 77 5 v0.heap.size v0.heap.size (Lib.byteCells acc.data.toList) wr) ∧ Aside0 (Bx w wr w.heap.size [.int .i64 p.f0, .int .i64 p.f1, .slice B2 p.f2.length d2, .slice B3 p.f3.length d3] 25)) (fun v22 _ => p.f2.length - (intOf v22).toNat)
  case atStart => exact ⟨0, fb ++ (⟨#[10]⟩ : ByteArray), rfl, by omega, by rw [app_size]; show _ + 1 ≤ _; omega, ⟨HS.out⟩, ⟨.inr (show Lib.BuilderAt _ _ _ _ _ (Lib.byteCells (fb ++ (⟨#[10]⟩ : ByteArray)).data.toList) _ from HI2.out)⟩, PZ⟩
  case round =>
    clear s0 s1 s2 s3 HI2 PZ HS
    obtain ⟨i, acc, rfl, hi, hac, HA, HI, HP⟩ := hrel
    by_cases hlt : i < p.f2.length
    · obtain ⟨ad, e0, hx⟩ := Kd.at_string HN.out (i : Int) (by omega) (by omega)
      cases e0
      simp only [rdOf, Int.toNat_natCast] at hx
      have hx1 := (HP.out.hb.cell (World.block_lt_of_cell? w _ hx)).trans hx
      clear hx
      have HA1 := HA.out
      rw [drop_getS p.f2 i hlt, List.foldl_cons] at HA1
      have c1 := Lib.hid (cN.out i)
      have hz := cNZ.out i
      rw [show nameF acc (p.f2.getD i ByteArray.empty) = acc ++ (namedB (p.f2.getD i ByteArray.empty) ++ ⟨#[10]⟩) from rfl] at HA1
      generalize p.f2.getD i ByteArray.empty = s at *
      generalize namedB s = nb at *
      have HA3 := Aside0.mk HA1
      clear HA1 HA
      have f1 : nb.size + 1 ≤ 9223372036854775807 := by omega
      have hpos : 0 < (nb ++ ⟨#[10]⟩ : ByteArray).size := by rw [app_size]; show 0 < _ + 1; omega
      have hroom : (Lib.byteCells acc.data.toList).length + (nb ++ ⟨#[10]⟩ : ByteArray).size ≤ 140737488355328 := by rw [app_size, bc_len]; show _ + (_ + 1) ≤ _; omega
      have FZ := Aside0.mk (Nat.le_trans (Nat.le_of_eq (size3 acc nb)) (show acc.size + (nb.size + 1) ≤ 60 + 4010 * (i + 1) by omega))
      have HI9 := HI
      clear HI
      go_wp2_with (first
        | (go_at_call 44
           with_reducible refine (c1.out _ HP.out.hb).mono ?_
           rintro e v1 ⟨rfl, hb⟩
           have PY := Aside0.mk (HP.out.next hb)
           have HI1 := Aside0.mk (isb_below HI9.out hb)
           clear hb)
        | (go_at_call 42
           with_reducible refine (cw.out v0.heap.size v0.heap.size _ _ _ HI1.out hpos hroom (isb_lt HI1.out)).mono ?_
           rintro e v9 ⟨rfl, hbb, hb⟩
           have HI2 := Aside0.mk hbb
           have PZ := Aside0.mk (PY.out.nextB hb hv0 (Nat.le_of_lt hv0))
           have s0 := PZ.out.c 0
           have s1 := PZ.out.c 1
           have s2 := PZ.out.c 2
           have s3 := PZ.out.c 3
           clear hbb hb)
        | fail)
      go_roundw
      case rel => exact ⟨i + 1, acc ++ (nb ++ (⟨#[10]⟩ : ByteArray)), by go_num, by omega, FZ.out, HA3, ⟨.inr (by rw [← bc_app]; exact HI2.out)⟩, PZ⟩
      case measure => simp [intOf]; omega
    · have hA := HA.out
      rw [List.drop_of_length_le (by omega)] at hA
      have HA2 := Aside0.mk (show p.f3.foldl (actF p.f2) acc = R from hA)
      have hac2 : acc.size ≤ 70000 := by omega
      clear hA HA hac
      have r3 := HP.out.c 3
      have r2 := HP.out.c 2
      go_wp2
      go_loopw [34] (fun v34 wr => ∃ (j : Nat) (acc : ByteArray), v34 = .int .i64 j ∧ j ≤ p.f3.length ∧ acc.size ≤ 70000 + 8589934700 * j ∧ Aside0 ((p.f3.drop j).foldl (actF p.f2) acc = R) ∧ Aside0 (Lib.IsBuilder 77 5 v0.heap.size v0.heap.size (Lib.byteCells acc.data.toList) wr) ∧ Aside0 (Bx w wr w.heap.size [.int .i64 p.f0, .int .i64 p.f1, .slice B2 p.f2.length d2, .slice B3 p.f3.length d3] 25)) (fun v34 _ => p.f3.length - (intOf v34).toNat)
      case atStart => exact ⟨0, acc, rfl, by omega, by omega, HA2, HI, HP⟩
      case round =>
        clear r2 r3 HA2 HI HP hac2 hi hlt
        obtain ⟨j, acc, rfl, hj, hac, HJ, HI, HP⟩ := hrel
        by_cases hlj : j < p.f3.length
        · skip
          obtain ⟨ad, A4, c4, A11, c11, A12, c12, e3, hx0, hx1, hx2, hx3, hx4, hx5, hx6, hx7, hx8, hx9, hx10, hx11, hx12, h4, g4, h11, g11, h12, g12⟩ := at_T34 HC.out (j : Int) (by omega) (by omega)
          cases e3
          have cc := Lib.hid (fun W hW => cL.out j hlj _ W hW (k34_mk w _ h4 g4 h11 g11 h12 g12))
          have HA1 := HJ.out
          rw [drop_cons34 p.f3 j hlj, List.foldl_cons] at HA1
          have hlz := cZ.out j hlj
          simp only [rd_T34, Int.toNat_natCast] at *
          clear g4 g11 g12 h4 h11 h12 HJ
          generalize p.f3.getD j z34 = x at *
          rw [show actF p.f2 acc x = acc ++ (lineB p.f2 x ++ ⟨#[10]⟩) from rfl] at HA1
          generalize lineB p.f2 x = lb at *
          have HA3 := Aside0.mk HA1
          clear HA1
          replace hx0 := (HP.out.hb.cell (World.block_lt_of_cell? w _ hx0)).trans hx0
          replace hx1 := (HP.out.hb.cell (World.block_lt_of_cell? w _ hx1)).trans hx1
          replace hx2 := (HP.out.hb.cell (World.block_lt_of_cell? w _ hx2)).trans hx2
          replace hx3 := (HP.out.hb.cell (World.block_lt_of_cell? w _ hx3)).trans hx3
          replace hx4 := (HP.out.hb.cell (World.block_lt_of_cell? w _ hx4)).trans hx4
          replace hx5 := (HP.out.hb.cell (World.block_lt_of_cell? w _ hx5)).trans hx5
          replace hx6 := (HP.out.hb.cell (World.block_lt_of_cell? w _ hx6)).trans hx6
          replace hx7 := (HP.out.hb.cell (World.block_lt_of_cell? w _ hx7)).trans hx7
          replace hx8 := (HP.out.hb.cell (World.block_lt_of_cell? w _ hx8)).trans hx8
          replace hx9 := (HP.out.hb.cell (World.block_lt_of_cell? w _ hx9)).trans hx9
          replace hx10 := (HP.out.hb.cell (World.block_lt_of_cell? w _ hx10)).trans hx10
          replace hx11 := (HP.out.hb.cell (World.block_lt_of_cell? w _ hx11)).trans hx11
          replace hx12 := (HP.out.hb.cell (World.block_lt_of_cell? w _ hx12)).trans hx12
          have hst := act_store0 (.int .i64 x.f0) (.int .i64 x.f1) (.int .i64 x.f2) (.int .i64 x.f3) (.slice A4 x.f4.length c4) (.int .u32 x.f5) (.int .u32 x.f6) (.int .u32 x.f7) (.int .u64 x.f8.f0) (.int .u64 x.f8.f1) (.int .i64 x.f9) (.slice A11 x.f10.length c11) (.slice A12 x.f11.length c12) (by simp [Value.oneCell'])
          have X0 := Aside0.mk (HP.out.on [.int .i64 x.f0, .int .i64 x.f1, .int .i64 x.f2, .int .i64 x.f3, .slice A4 x.f4.length c4, .int .u32 x.f5, .int .u32 x.f6, .int .u32 x.f7, .int .u64 x.f8.f0, .int .u64 x.f8.f1, .int .i64 x.f9, .slice A11 x.f10.length c11, .slice A12 x.f11.length c12] 34)
          replace HP := Aside0.mk (HP.out.push (.cells #[.int .i64 x.f0, .int .i64 x.f1, .int .i64 x.f2, .int .i64 x.f3, .slice A4 x.f4.length c4, .int .u32 x.f5, .int .u32 x.f6, .int .u32 x.f7, .int .u64 x.f8.f0, .int .u64 x.f8.f1, .int .i64 x.f9, .slice A11 x.f10.length c11, .slice A12 x.f11.length c12] 34))
          go_upto_region 14 with fail
          have HI8 := Aside0.mk (isb_below HI.out ((Below.refl _ _).alloc (Nat.le_refl _) (.cells #[.int .i64 x.f0, .int .i64 x.f1, .int .i64 x.f2, .int .i64 x.f3, .slice A4 x.f4.length c4, .int .u32 x.f5, .int .u32 x.f6, .int .u32 x.f7, .int .u64 x.f8.f0, .int .u64 x.f8.f1, .int .i64 x.f9, .slice A11 x.f10.length c11, .slice A12 x.f11.length c12] 34)))
          clear HI
          generalize wr.alloc (.cells #[.int .i64 x.f0, .int .i64 x.f1, .int .i64 x.f2, .int .i64 x.f3, .slice A4 x.f4.length c4, .int .u32 x.f5, .int .u32 x.f6, .int .u32 x.f7, .int .u64 x.f8.f0, .int .u64 x.f8.f1, .int .i64 x.f9, .slice A11 x.f10.length c11, .slice A12 x.f11.length c12] 34) = W7 at *
          clear hx0 hx1 hx2 hx3 hx4 hx5 hx6 hx7 hx8 hx9 hx10 hx11 hx12 hst
          have q0 := X0.out.c 0
          have q1 := X0.out.c 1
          have q2 := X0.out.c 2
          have q3 := X0.out.c 3
          have q4 := X0.out.c 4
          have q5 := X0.out.c 5
          have q6 := X0.out.c 6
          have q7 := X0.out.c 7
          have q8 := X0.out.c 8
          have q9 := X0.out.c 9
          have q10 := X0.out.c 10
          have q11 := X0.out.c 11
          have q12 := X0.out.c 12
          have r0 := HP.out.c 0
          have r1 := HP.out.c 1
          have r2 := HP.out.c 2
          have r3 := HP.out.c 3
          have f1 : lb.size + 1 ≤ 9223372036854775807 := by omega
          have hpos : 0 < (lb ++ ⟨#[10]⟩ : ByteArray).size := by rw [app_size]; show 0 < _ + 1; omega
          have hroom : (Lib.byteCells acc.data.toList).length + (lb ++ ⟨#[10]⟩ : ByteArray).size ≤ 140737488355328 := by rw [app_size, bc_len]; show _ + (_ + 1) ≤ _; omega
          have FZ := Aside0.mk (Nat.le_trans (Nat.le_of_eq (size3 acc lb)) (show acc.size + (lb.size + 1) ≤ 70000 + 8589934700 * (j + 1) by omega))
          go_wp2_with (first
            | (go_at_call 26
               with_reducible refine (cc.out _ HP.out.hb).mono ?_
               rintro e v1 ⟨rfl, hb⟩
               have PY := Aside0.mk (HP.out.next hb)
               have HI1 := Aside0.mk (isb_below HI8.out hb)
               clear hb)
            | (go_at_call 42
               with_reducible refine (cw.out v0.heap.size v0.heap.size _ _ _ HI1.out hpos hroom (isb_lt HI1.out)).mono ?_
               rintro e v9 ⟨rfl, hbb, hb⟩
               have HI2 := Aside0.mk hbb
               have PZ := Aside0.mk (PY.out.nextB hb hv0 (Nat.le_of_lt hv0))
               have s0 := PZ.out.c 0
               have s1 := PZ.out.c 1
               have s2 := PZ.out.c 2
               have s3 := PZ.out.c 3
               clear hbb hb)
            | fail)
          go_roundw
          case rel => exact ⟨j + 1, acc ++ (lb ++ (⟨#[10]⟩ : ByteArray)), by go_num, by omega, FZ.out, HA3, ⟨.inr (by rw [← bc_app]; exact HI2.out)⟩, PZ⟩
          case measure => simp [intOf]; omega
        · obtain rfl : acc = R := by
            have := HJ.out
            rw [List.drop_of_length_le (by omega)] at this
            exact this
          have cln := Tryz.Builder_Len v0.heap.size v0.heap.size _ wr HI.out
          rw [bc_len] at cln
          have cst := Tryz.Builder_String_any v0.heap.size v0.heap.size acc.data.toList wr HI.out (isb_lt HI.out)
          rw [show (⟨acc.data.toList.toArray⟩ : ByteArray) = acc by simp] at cst
          have cln := Lib.hid cln
          have cst := Lib.hid cst
          have hwb : w.heap.size ≤ v0.heap.size := by omega
          clear HJ hac
          by_cases hbig : 1048576 < acc.size
          · have HBIG := Lib.hid hbig
            have t1 : (1048576 : Int) < (acc.size : Int) := by omega
            clear hbig
            go_wp2_with (first
              | (go_at_call 45
                 with_reducible refine cln.out.mono ?_
                 rintro e v8 ⟨rfl, hv⟩
                 obtain rfl := hv.symm)
              | fail)
            go_ret2
            exact ⟨by rw [← HE1.out, ← HE2.out, if_pos HBIG.out, if_pos HBIG.out]; rfl, HP.out.hb⟩
          · have HBIG := Lib.hid hbig
            have t1 : ¬ (1048576 : Int) < (acc.size : Int) := by omega
            clear hbig
            go_wp2_with (first
              | (go_at_call 45
                 with_reducible refine cln.out.mono ?_
                 rintro e v8 ⟨rfl, hv⟩
                 obtain rfl := hv.symm)
              | (go_at_call 46
                 with_reducible refine cst.out.mono ?_
                 rintro e v7 ⟨rfl, hb⟩)
              | fail)
            go_ret2
            exact ⟨by rw [← HE1.out, ← HE2.out, if_neg HBIG.out, if_neg HBIG.out]; rfl, HP.out.hb.trans (hb.mono hwb)⟩
end Go.Proofs.YtpdinahdcedmkaaGreatDoor.Ext
/- The document's Print. -/
namespace Go.Proofs.YtpdinahdcedmkaaGreatDoor.Ext
open Go.Proofs.YtpdinahdcedmkaaGreatDoor.P
set_option linter.unusedVariables false
set_option linter.unusedSimpArgs false
open Go.RowKit Go.Proofs.YtpdinahdcedmkaaGreatDoorW.PrintWords Go.Proofs.YtpdinahdcedmkaaGreatDoorW.PrintLast Go.Proofs.YtpdinahdcedmkaaGreatDoorW.PrintMore Go.Proofs.YtpdinahdcedmkaaGreatDoor.Spec

set_option maxHeartbeats 4000000 in
set_option maxRecDepth 100000 in
theorem r_headT (p : Plan) (cp : List Value) (w : World) (hP : k25.K w p cp) : Calls Tryz.prog 47 #[.agg cp.toArray] w (StrB (firstB p ++ ⟨#[10]⟩) w) := by
  have P0 := Aside0.mk (Bx.new w cp 25)
  obtain ⟨B2, d2, B3, d3, rfl, m2, e2, m3, e3⟩ := k25_open hP
  clear hP m2 e2 m3 e3
  have c1 := Lib.hid (fun W => r_digits (IntKind.u64.wrap p.f0) W (wrap_u64_bd _).1 (wrap_u64_bd _).2)
  have c2 := Lib.hid (fun W => r_digits (IntKind.u64.wrap p.f1) W (wrap_u64_bd _).1 (wrap_u64_bd _).2)
  have z1 := decS_size _ (wrap_u64_bd p.f0).2
  have z2 := decS_size _ (wrap_u64_bd p.f1).2
  unfold firstB
  generalize decS (IntKind.u64.wrap p.f0) = R1 at *
  generalize decS (IntKind.u64.wrap p.f1) = R2 at *
  have f1 : 7 + R1.size ≤ 9223372036854775807 := by omega
  have f2 : (⟨#[108, 105, 118, 101, 114, 121, 32]⟩ ++ R1 : ByteArray).size + 1 ≤ 9223372036854775807 := by rw [app_size]; show 7 + _ + 1 ≤ _; omega
  have f3 : ((⟨#[108, 105, 118, 101, 114, 121, 32]⟩ ++ R1) ++ ⟨#[32]⟩ : ByteArray).size + R2.size ≤ 9223372036854775807 := by rw [app_size, app_size]; show 7 + _ + 1 + _ ≤ _; omega
  have k1 := fun W => run_string_add_sum (P := Tryz.prog) W (⟨#[108, 105, 118, 101, 114, 121, 32]⟩ : ByteArray) R1 f1
  have k2 := fun W => run_string_add_sum (P := Tryz.prog) W (⟨#[108, 105, 118, 101, 114, 121, 32]⟩ ++ R1 : ByteArray) (⟨#[32]⟩ : ByteArray) f2
  have k3 := fun W => run_string_add_sum (P := Tryz.prog) W ((⟨#[108, 105, 118, 101, 114, 121, 32]⟩ ++ R1) ++ ⟨#[32]⟩ : ByteArray) R2 f3
  have f4 : (((⟨#[108, 105, 118, 101, 114, 121, 32]⟩ ++ R1) ++ ⟨#[32]⟩) ++ R2 : ByteArray).size + 1 ≤ 9223372036854775807 := by rw [app_size, app_size, app_size]; show 7 + _ + 1 + _ + 1 ≤ _; omega
  have k4 := fun W => run_string_add_sum (P := Tryz.prog) W (((⟨#[108, 105, 118, 101, 114, 121, 32]⟩ ++ R1) ++ ⟨#[32]⟩) ++ R2 : ByteArray) (⟨#[10]⟩ : ByteArray) f4
  have r0 := P0.out.c 0
  have r1 := P0.out.c 1
  have r2 := P0.out.c 2
  have r3 := P0.out.c 3
  go_enter Tryz.func47, Tryz.ntmps47
  go_upto_region 1 with fail
  refine wp_region_held_drew (S := HP1 w 25 w.heap.size (.int .i64 p.f0) (.int .i64 p.f1) (.slice B2 p.f2.length d2) (.slice B3 p.f3.length d3)) (by kernel_rfl) (hp1_mk P0.out |>.next (Below.drew (Below.refl _ _))) (fun hHeld => ?_)
  apply tkH 0 (hy := by (intro w hSw; (try dsimp only at hSw); (try simp only [HP1] at hSw); go_simp; (try with_reducible rfl)))
  apply tkH 1 (hy := by (intro w hSw; (try dsimp only at hSw); (try simp only [HP1] at hSw); go_simp; (try with_reducible rfl)))
  apply tkH 2 (hy := by (intro w hSw; (try dsimp only at hSw); (try simp only [HP1] at hSw); go_simp; (try with_reducible rfl)))
  apply tkH 6 (hy := by (intro w hSw; (try dsimp only at hSw); (try simp only [HP1] at hSw); go_simp; (try with_reducible rfl)))
  apply tkH 7 (hy := by (intro w hSw; (try dsimp only at hSw); (try simp only [HP1] at hSw); go_simp; (try with_reducible rfl)))
  apply tkH 8 (hy := by (intro w hSw; (try dsimp only at hSw); (try simp only [HP1] at hSw); go_simp; (try with_reducible rfl)))
  refine wpAnyH_ready (rs := [3]) (by kernel_rfl) (by simp) ?_
  refine AllReadyH.cons rfl (fun K hK => ?_) AllReadyH.nil
  go_simp
  go_at_call 74
  with_reducible refine (c1.out _).mono ?_
  rintro e u1 ⟨rfl, hbz⟩
  try go_wp2_with fail
  refine hK.out _ _ (hHeld.next hbz) ?_
  clear hHeld hbz hK K
  intro hHeld
  try simp only [Act.put, List.setIfInBounds_toArray, List.set_cons_zero, List.set_cons_succ, List.getElem_toArray, List.getElem_cons_succ, List.getElem_cons_zero]
  apply tkH 4 (hy := by (intro w hSw; (try dsimp only at hSw); (try simp only [HP1] at hSw); go_simp; (try with_reducible rfl)))
  apply tkH 5 (hy := by (intro w hSw; (try dsimp only at hSw); (try simp only [HP1] at hSw); go_simp; (try with_reducible rfl)))
  refine wpAnyH_ready (rs := [9]) (by kernel_rfl) (by simp) ?_
  refine AllReadyH.cons rfl (fun K hK => ?_) AllReadyH.nil
  go_simp
  go_at_call 74
  with_reducible refine (c2.out _).mono ?_
  rintro e u2 ⟨rfl, hbz⟩
  try go_wp2_with fail
  refine hK.out _ _ (hHeld.next hbz) ?_
  clear hHeld hbz hK K
  intro hHeld
  try simp only [Act.put, List.setIfInBounds_toArray, List.set_cons_zero, List.set_cons_succ, List.getElem_toArray, List.getElem_cons_succ, List.getElem_cons_zero]
  apply tkH 10 (hy := by (intro w hSw; (try dsimp only at hSw); (try simp only [HP1] at hSw); go_simp; (try with_reducible rfl)))
  apply tkH 11 (hy := by (intro w hSw; (try dsimp only at hSw); (try simp only [HP1] at hSw); go_simp; (try with_reducible rfl)))
  apply tkH 12 (hy := by (intro w hSw; (try dsimp only at hSw); (try simp only [HP1] at hSw); go_simp; (try with_reducible rfl)))
  refine wpAnyH_done (by kernel_rfl) ?_ _
  go_wp2_with fail
  go_ret
  exact ⟨rfl, hHeld.b.hb⟩
set_option maxHeartbeats 16000000 in
set_option maxRecDepth 100000 in
theorem r_PrintNo (p : Plan) (cp : List Value) (w : World) (hP : k25.K w p cp) (h : PrintOk p) (hck : checkS p = false) :
    Calls Tryz.prog 17 #[.agg cp.toArray] w (StrE ⟨#[]⟩ 270 w) := by
  have cC := fun W (hW : Below w.heap.size w W) => r_Check p cp W (k25.K_below hW hP) h.bd (fun i => Nat.le_trans (h.nm i) (by omega))
  rw [← check_eq, show checkE p = 270 by unfold checkE; rw [hck]; rfl] at cC
  replace cC := Lib.hid cC
  have P0 := Aside0.mk (Bx.new w cp 25)
  obtain ⟨B2, d2, B3, d3, rfl, m2, e2, m3, e3⟩ := k25_open hP
  clear hP h hck m2 e2 m3 e3
  have r0 := P0.out.c 0
  have r1 := P0.out.c 1
  have r2 := P0.out.c 2
  have r3 := P0.out.c 3
  go_enter Tryz.func17, Tryz.ntmps17
  go_wp2_with (first
    | (go_at_call 19
       with_reducible refine (cC.out _ P0.out.hb).mono ?_
       rintro e v ⟨rfl, hb⟩
       replace P0 := Aside0.mk (P0.out.next hb)
       clear hb)
    | fail)
  go_ret2
  exact ⟨rfl, P0.out.hb⟩
set_option maxHeartbeats 32000000 in
set_option maxRecDepth 100000 in
theorem r_PrintYes (p : Plan) (cp : List Value) (w : World) (hP : k25.K w p cp) (h : PrintOk p) (hck : checkS p = true) :
    Calls Tryz.prog 17 #[.agg cp.toArray] w (StrE (if 1048576 < (printB p).size then ⟨#[]⟩ else printB p) (if 1048576 < (printB p).size then 3 else 0) w) := by
  have cC := fun W (hW : Below w.heap.size w W) => r_Check p cp W (k25.K_below hW hP) h.bd (fun i => Nat.le_trans (h.nm i) (by omega))
  rw [← check_eq, show checkE p = 0 by unfold checkE; rw [hck]; rfl] at cC
  replace cC := Lib.hid cC
  have cF := Lib.hid (fun W (hW : Below w.heap.size w W) => r_headT p cp W (k25.K_below hW hP))
  have cN := Lib.hid (fun i W => r_Quote (p.f2.getD i ByteArray.empty) W (Nat.le_trans (h.nm i) (by omega)))
  have cL := Lib.hid (fun i hi cs W (hW : Below w.heap.size w W) (h1 : k34.K w (p.f3.getD i z34) cs) => r_LineYes p (p.f3.getD i z34) cp cs W (k25.K_below hW hP) (k34.K_below hW h1) h.bd (h.bd.acts i) (fun i => Nat.le_trans (h.nm i) (by omega)) (check_head hck).1 (by rw [← may_eq]; exact (check_head hck).2.2 i hi) (h.say hck i hi))
  have cZ := Lib.hid (fun i hi => lineB_size (h.say hck i hi))
  have cNZ := Lib.hid (fun i => namedB_size _ (h.nm i))
  have cM := Lib.hid (actF_fold p.f2)
  have hn16 := (check_head hck).2.1
  have hn400 := h.ac
  have hfz := firstB_size p
  obtain ⟨R, hR⟩ : ∃ R, printB p = R := ⟨_, rfl⟩
  rw [hR]
  obtain ⟨E1, hE1⟩ : ∃ E, (if 1048576 < R.size then (⟨#[]⟩ : ByteArray) else R) = E := ⟨_, rfl⟩
  obtain ⟨E2, hE2⟩ : ∃ E, (if 1048576 < R.size then (3 : Int) else 0) = E := ⟨_, rfl⟩
  rw [hE1, hE2]
  have HE1 := Lib.hid hE1
  have HE2 := Lib.hid hE2
  clear hE1 hE2
  unfold printB headB at hR
  have P0 := Aside0.mk (Bx.new w cp 25)
  obtain ⟨B2, d2, B3, d3, rfl, m2, e2, m3, e3⟩ := k25_open hP
  have HN := Aside0.mk e2
  have HC := Aside0.mk e3
  have hle2 := m2
  have hle3 := m3
  clear hP h hck m2 e2 m3 e3
  have hfz2 : (firstB p ++ (⟨#[10]⟩ : ByteArray)).size ≤ 60 := Nat.le_trans (Nat.le_of_eq (app_size _ _)) (show _ + 1 ≤ 60 by omega)
  generalize firstB p ++ (⟨#[10]⟩ : ByteArray) = fb at *
  have HS := Lib.hid hR
  clear hR
  have r0 := P0.out.c 0
  have r1 := P0.out.c 1
  have r2 := P0.out.c 2
  have r3 := P0.out.c 3
  go_enter Tryz.func17, Tryz.ntmps17
  go_wp2_with (first
    | (go_at_call 19
       with_reducible refine (cC.out _ P0.out.hb).mono ?_
       rintro e v0 ⟨rfl, hb⟩
       have PB := Aside0.mk (P0.out.next hb)
       clear hb
       have s0 := PB.out.c 0
       have s1 := PB.out.c 1
       have s2 := PB.out.c 2
       have s3 := PB.out.c 3)
    | (go_at_call 47
       with_reducible refine (cF.out _ PB.out.hb).mono ?_
       rintro e v1 ⟨rfl, hb⟩
       have PZ := Aside0.mk (PB.out.next hb)
       clear hb
       have u2 := PZ.out.c 2)
    | fail)
  clear r0 r1 r2 r3 s0 s1 s2 s3 P0 PB
  go_loopw [5, 22] (fun v5 v22 wr => ∃ (i : Nat) (acc : ByteArray), v22 = .int .i64 i ∧ v5 = .string acc ∧ i ≤ p.f2.length ∧ acc.size ≤ 60 + 4010 * i ∧ Aside0 (p.f3.foldl (actF p.f2) ((p.f2.drop i).foldl nameF acc) = R) ∧ Aside0 (Bx w wr w.heap.size [.int .i64 p.f0, .int .i64 p.f1, .slice B2 p.f2.length d2, .slice B3 p.f3.length d3] 25)) (fun _ v22 _ => p.f2.length - (intOf v22).toNat)
  case atStart => exact ⟨0, fb, rfl, rfl, by omega, by omega, ⟨HS.out⟩, PZ⟩
  case round =>
    clear u2 PZ HS
    obtain ⟨i, acc, rfl, rfl, hi, hac, HA, HP⟩ := hrel
    by_cases hlt : i < p.f2.length
    · obtain ⟨ad, e0, hx⟩ := Kd.at_string HN.out (i : Int) (by omega) (by omega)
      cases e0
      simp only [rdOf, Int.toNat_natCast] at hx
      have hx1 := (HP.out.hb.cell (World.block_lt_of_cell? w _ hx)).trans hx
      clear hx
      have HA1 := HA.out
      rw [drop_getS p.f2 i hlt, List.foldl_cons] at HA1
      have c1 := Lib.hid (cN.out i)
      have hz := cNZ.out i
      rw [show nameF acc (p.f2.getD i ByteArray.empty) = acc ++ (namedB (p.f2.getD i ByteArray.empty) ++ ⟨#[10]⟩) from rfl] at HA1
      generalize p.f2.getD i ByteArray.empty = s at *
      unfold namedB at HA1 hz
      generalize quoteS s = q at *
      have hz2 : 7 + q.size ≤ 4009 := Nat.le_trans (Nat.le_of_eq (app_size (⟨#[100, 101, 118, 105, 99, 101, 32]⟩ : ByteArray) q).symm) hz
      have hz3 : (⟨#[100, 101, 118, 105, 99, 101, 32]⟩ ++ q : ByteArray).size = 7 + q.size := app_size _ _
      have HA3 := Aside0.mk HA1
      clear HA1 HA hz
      have f1 : 7 + q.size ≤ 9223372036854775807 := by omega
      have f2 : (⟨#[100, 101, 118, 105, 99, 101, 32]⟩ ++ q : ByteArray).size + 1 ≤ 9223372036854775807 := by omega
      have hz4 : ((⟨#[100, 101, 118, 105, 99, 101, 32]⟩ ++ q) ++ ⟨#[10]⟩ : ByteArray).size = 7 + q.size + 1 := by rw [app_size, hz3]; rfl
      have f3 : acc.size + ((⟨#[100, 101, 118, 105, 99, 101, 32]⟩ ++ q) ++ ⟨#[10]⟩ : ByteArray).size ≤ 9223372036854775807 := by omega
      have FZ := Aside0.mk (show (acc ++ ((⟨#[100, 101, 118, 105, 99, 101, 32]⟩ ++ q) ++ (⟨#[10]⟩ : ByteArray))).size ≤ 60 + 4010 * (i + 1) from Nat.le_trans (Nat.le_of_eq (app_size _ _)) (by omega))
      clear hz3 hz4
      go_wp2_with (first
        | (go_at_call 48
           with_reducible refine (c1.out _).mono ?_
           rintro e v1 ⟨rfl, hb⟩
           have PY := Aside0.mk (HP.out.next hb)
           clear hb)
        | fail)
      go_roundw
      case rel => exact ⟨i + 1, _, by go_num, rfl, by omega, FZ.out, HA3, PY⟩
      case measure => simp [intOf]; omega
    · have hA := HA.out
      rw [List.drop_of_length_le (by omega)] at hA
      have HA2 := Aside0.mk (show p.f3.foldl (actF p.f2) acc = R from hA)
      have hac2 : acc.size ≤ 1048576 := by omega
      clear hA HA hac
      have r3 := HP.out.c 3
      have r2 := HP.out.c 2
      go_wp2
      go_loopw [5, 36] (fun v5 v36 wr => ∃ (j : Nat) (acc : ByteArray), v36 = .int .i64 j ∧ v5 = .string acc ∧ j ≤ p.f3.length ∧ acc.size ≤ 1048576 ∧ Aside0 ((p.f3.drop j).foldl (actF p.f2) acc = R) ∧ Aside0 (Bx w wr w.heap.size [.int .i64 p.f0, .int .i64 p.f1, .slice B2 p.f2.length d2, .slice B3 p.f3.length d3] 25)) (fun _ v36 _ => p.f3.length - (intOf v36).toNat)
      case atStart => exact ⟨0, acc, rfl, rfl, by omega, hac2, HA2, HP⟩
      case round =>
        clear r2 r3 HA2 HP hac2 hi hlt
        obtain ⟨j, acc, rfl, rfl, hj, hac, HJ, HP⟩ := hrel
        by_cases hlj : j < p.f3.length
        · skip
          obtain ⟨ad, A4, c4, A11, c11, A12, c12, e3, hx0, hx1, hx2, hx3, hx4, hx5, hx6, hx7, hx8, hx9, hx10, hx11, hx12, h4, g4, h11, g11, h12, g12⟩ := at_T34 HC.out (j : Int) (by omega) (by omega)
          cases e3
          have cc := Lib.hid (fun W hW => cL.out j hlj _ W hW (k34_mk w _ h4 g4 h11 g11 h12 g12))
          have HA1 := HJ.out
          rw [drop_cons34 p.f3 j hlj, List.foldl_cons] at HA1
          have hlz := cZ.out j hlj
          simp only [rd_T34, Int.toNat_natCast] at *
          clear g4 g11 g12 h4 h11 h12 HJ
          generalize p.f3.getD j z34 = x at *
          rw [show actF p.f2 acc x = acc ++ (lineB p.f2 x ++ ⟨#[10]⟩) from rfl] at HA1
          generalize lineB p.f2 x = lb at *
          have HA3 := Aside0.mk HA1
          clear HA1
          replace hx0 := (HP.out.hb.cell (World.block_lt_of_cell? w _ hx0)).trans hx0
          replace hx1 := (HP.out.hb.cell (World.block_lt_of_cell? w _ hx1)).trans hx1
          replace hx2 := (HP.out.hb.cell (World.block_lt_of_cell? w _ hx2)).trans hx2
          replace hx3 := (HP.out.hb.cell (World.block_lt_of_cell? w _ hx3)).trans hx3
          replace hx4 := (HP.out.hb.cell (World.block_lt_of_cell? w _ hx4)).trans hx4
          replace hx5 := (HP.out.hb.cell (World.block_lt_of_cell? w _ hx5)).trans hx5
          replace hx6 := (HP.out.hb.cell (World.block_lt_of_cell? w _ hx6)).trans hx6
          replace hx7 := (HP.out.hb.cell (World.block_lt_of_cell? w _ hx7)).trans hx7
          replace hx8 := (HP.out.hb.cell (World.block_lt_of_cell? w _ hx8)).trans hx8
          replace hx9 := (HP.out.hb.cell (World.block_lt_of_cell? w _ hx9)).trans hx9
          replace hx10 := (HP.out.hb.cell (World.block_lt_of_cell? w _ hx10)).trans hx10
          replace hx11 := (HP.out.hb.cell (World.block_lt_of_cell? w _ hx11)).trans hx11
          replace hx12 := (HP.out.hb.cell (World.block_lt_of_cell? w _ hx12)).trans hx12
          have hst := act_store0 (.int .i64 x.f0) (.int .i64 x.f1) (.int .i64 x.f2) (.int .i64 x.f3) (.slice A4 x.f4.length c4) (.int .u32 x.f5) (.int .u32 x.f6) (.int .u32 x.f7) (.int .u64 x.f8.f0) (.int .u64 x.f8.f1) (.int .i64 x.f9) (.slice A11 x.f10.length c11) (.slice A12 x.f11.length c12) (by simp [Value.oneCell'])
          have X0 := Aside0.mk (HP.out.on [.int .i64 x.f0, .int .i64 x.f1, .int .i64 x.f2, .int .i64 x.f3, .slice A4 x.f4.length c4, .int .u32 x.f5, .int .u32 x.f6, .int .u32 x.f7, .int .u64 x.f8.f0, .int .u64 x.f8.f1, .int .i64 x.f9, .slice A11 x.f10.length c11, .slice A12 x.f11.length c12] 34)
          replace HP := Aside0.mk (HP.out.push (.cells #[.int .i64 x.f0, .int .i64 x.f1, .int .i64 x.f2, .int .i64 x.f3, .slice A4 x.f4.length c4, .int .u32 x.f5, .int .u32 x.f6, .int .u32 x.f7, .int .u64 x.f8.f0, .int .u64 x.f8.f1, .int .i64 x.f9, .slice A11 x.f10.length c11, .slice A12 x.f11.length c12] 34))
          go_upto_region 13 with fail
          generalize wr.alloc (.cells #[.int .i64 x.f0, .int .i64 x.f1, .int .i64 x.f2, .int .i64 x.f3, .slice A4 x.f4.length c4, .int .u32 x.f5, .int .u32 x.f6, .int .u32 x.f7, .int .u64 x.f8.f0, .int .u64 x.f8.f1, .int .i64 x.f9, .slice A11 x.f10.length c11, .slice A12 x.f11.length c12] 34) = W7 at *
          clear hx0 hx1 hx2 hx3 hx4 hx5 hx6 hx7 hx8 hx9 hx10 hx11 hx12 hst
          have q0 := X0.out.c 0
          have q1 := X0.out.c 1
          have q2 := X0.out.c 2
          have q3 := X0.out.c 3
          have q4 := X0.out.c 4
          have q5 := X0.out.c 5
          have q6 := X0.out.c 6
          have q7 := X0.out.c 7
          have q8 := X0.out.c 8
          have q9 := X0.out.c 9
          have q10 := X0.out.c 10
          have q11 := X0.out.c 11
          have q12 := X0.out.c 12
          have r0 := HP.out.c 0
          have r1 := HP.out.c 1
          have r2 := HP.out.c 2
          have r3 := HP.out.c 3
          have f1 : lb.size + 1 ≤ 9223372036854775807 := by omega
          have hz3 : (lb ++ ⟨#[10]⟩ : ByteArray).size = lb.size + 1 := app_size _ _
          have f2 : acc.size + (lb ++ ⟨#[10]⟩ : ByteArray).size ≤ 9223372036854775807 := by omega
          clear hz3
          by_cases hbig : 1048576 < acc.size + (lb.size + 1)
          · have hge := cM.out (p.f3.drop (j + 1)) (acc ++ (lb ++ (⟨#[10]⟩ : ByteArray)))
            rw [HA3.out, size3] at hge
            have HBIG := Lib.hid (show 1048576 < R.size by omega)
            have t1 : (1048576 : Int) < (acc.size : Int) + ((lb.size : Int) + 1) := by omega
            clear hge hbig HA3
            go_wp2_with (first
              | (go_at_call 12
                 with_reducible refine (cc.out _ HP.out.hb).mono ?_
                 rintro e v1 ⟨rfl, hb⟩
                 have PY := Aside0.mk (HP.out.next hb)
                 clear hb)
              | fail)
            go_ret2
            exact ⟨by rw [← HE1.out, ← HE2.out, if_pos HBIG.out, if_pos HBIG.out]; rfl, PY.out.hb⟩
          · have FZ := Aside0.mk (show (acc ++ (lb ++ (⟨#[10]⟩ : ByteArray))).size ≤ 1048576 from Nat.le_trans (Nat.le_of_eq (size3 _ _)) (by omega))
            have t1 : ((1048576 : Int) < (acc.size : Int) + ((lb.size : Int) + 1)) = False := eq_false (by omega)
            have HAC := Lib.hid hac
            clear hbig hac
            go_wp2_with (first
              | (go_at_call 12
                 with_reducible refine (cc.out _ HP.out.hb).mono ?_
                 rintro e v1 ⟨rfl, hb⟩
                 have PY := Aside0.mk (HP.out.next hb)
                 clear hb)
              | fail)
            go_roundw
            case rel => exact ⟨j + 1, _, by go_num, rfl, by omega, FZ.out, HA3, PY⟩
            case measure => simp [intOf]; omega
        · obtain rfl : acc = R := by
            have := HJ.out
            rw [List.drop_of_length_le (by omega)] at this
            exact this
          have HBIG := Lib.hid (show ¬ 1048576 < acc.size by omega)
          clear HJ hac
          go_wp2
          go_ret2
          exact ⟨by rw [← HE1.out, ← HE2.out, if_neg HBIG.out, if_neg HBIG.out]; rfl, HP.out.hb⟩
end Go.Proofs.YtpdinahdcedmkaaGreatDoor.Ext
