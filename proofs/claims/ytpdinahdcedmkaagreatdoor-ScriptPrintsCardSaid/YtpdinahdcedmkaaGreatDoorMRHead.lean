import Derived.Test.YtpdinahdcedmkaaGreatDoorP0
import Derived.Test.YtpdinahdcedmkaaGreatDoorMDec
import Derived.Test.YtpdinahdcedmkaaGreatDoorMCheck
/- the document's Runes: the runes of a text. -/
namespace Go.Proofs.YtpdinahdcedmkaaGreatDoor.Ext
set_option linter.unusedVariables false
set_option linter.unusedSimpArgs false
open Go.RowKit Go.Proofs.YtpdinahdcedmkaaGreatDoorW.PrintWords Go.Proofs.YtpdinahdcedmkaaGreatDoorW.PrintLast Go.Proofs.YtpdinahdcedmkaaGreatDoorW.PrintMore

def runeL (l : List (Nat × Nat × Nat)) : List Int := l.map fun x => (x.2.1 : Int)
theorem own_int {w : World} {base : Nat} {v : Value} {k : IntKind} {e : Nat} {l : List Int} (h : w.ownsRow base e 1 v l.length (nums k l)) : Kd.R (Kd.int k) e w base (fun _ => True) v l := by
  refine ⟨fun _ _ => trivial, nums k l, h, ?_, fun j p hj => ?_⟩
  · show _ = _ * 1
    simp [nums]
  · show ((nums k l).drop (j * 1)).take 1 = [Value.int k p]
    rw [Nat.mul_one]
    have hlt : j < l.length := by
      rcases Nat.lt_or_ge j l.length with h | h
      · exact h
      · rw [List.getElem?_eq_none h] at hj; cases hj
    rw [List.getElem?_eq_getElem hlt] at hj
    obtain rfl := Option.some.inj hj
    rw [List.drop_eq_getElem_cons (by simpa [nums] using hlt)]
    simp [nums]
theorem info_i32 : (Tryz.prog.info? 21).map (fun i => (i.zero, i.size, i.bytes)) = some (some (.int .i32 0), 1, 4) := by kernel_rfl
def RunesPost (w : World) (l : List Int) (e : Ending) (w' : World) : Prop := ∃ v, e = .returned v ∧ Kd.R (Kd.int .i32) 21 w' w.heap.size (fun _ => True) v l ∧ Below w.heap.size w w'
set_option maxHeartbeats 4000000 in
set_option maxRecDepth 100000 in
theorem rrunes_walk (T : ByteArray) (w : World) (hz : T.size ≤ 1073741824) :
    Calls Tryz.prog 112 #[.string T] w (RunesPost w (runeL (runesOf T))) := by
  obtain ⟨i0, hi, hz0, hz1, hz2⟩ := info_parts info_i32
  have HPK := Aside0.mk (show runeL (runesOf T) = runeL (runesOf T) from rfl)
  generalize hU : runeL (runesOf T) = U at *
  replace HPK := Aside0.mk hU
  clear hU
  go_enter Tryz.func112, Tryz.ntmps112
  go_wp2
  go_loopw [3] (fun v3 wr => ∃ (pos fuel : Nat) (L : List Int), wr.heap[w.heap.size + 1]? = some (.stringIter T pos) ∧ Aside0 (wr.ownsRow w.heap.size 21 1 v3 L.length (nums .i32 L)) ∧ Aside0 (L ++ runeL (rns T fuel pos) = runeL (runesOf T) ∧ T.size ≤ pos + fuel ∧ pos ≤ T.size) ∧ L.length ≤ pos ∧ Aside0 (Below w.heap.size w wr)) (fun _ wr => T.size - wr.iterPos (w.heap.size + 1))
  case atStart =>
    refine ⟨0, T.size, [], ?_, ⟨?_⟩, ⟨rfl, by omega, by omega⟩, by simp, ⟨((Below.refl _ _).alloc (Nat.le_refl _) _).alloc (by simp) _⟩⟩
    · have := iter_new (w.alloc (.cells #[] 21)) T
      simpa using this
    · exact (World.ownsRow_lit (base := w.heap.size) (e := 21) (size := 1) w #[] 0 (Nat.le_refl _) (by simp [maxLen]) (by simp)).alloc _
  case round =>
    obtain ⟨pos, fuel, L, hit, HO, HL, hLp, HB⟩ := hrel
    by_cases hp : pos < T.size
    · have hw1 := Lib.decode_width_pos T pos hp
      have hwl := width_le T pos hp
      have hnx := fun ty => Lib.run_next_any_at (P := Tryz.prog) wr (w.heap.size + 1) T pos ty hit hp
      obtain ⟨f2, hf2, he2⟩ := rns_step T fuel pos hp HL.out.2.1
      have HI := Aside0.mk (Lib.iterAt_heap wr (w.heap.size + 1) T pos (pos + (Utf8.decode T pos).2) hit)
      have HM0 := iter_less hw1 hit hp
      have HMM : Aside0 (T.size - (pos + (Utf8.decode T pos).2) < T.size - wr.iterPos (w.heap.size + 1)) := ⟨by rwa [iterPos_of HI.out] at HM0⟩
      have HOI := Aside0.mk (row_iterAt HO.out hit (pos + (Utf8.decode T pos).2))
      have HBI := Aside0.mk (Lib.below_iterAt HB.out (show w.heap.size ≤ w.heap.size + 1 by omega) T (pos + (Utf8.decode T pos).2))
      have HL2 : Aside0 ((L ++ [((Utf8.decode T pos).1 : Int)]) ++ runeL (rns T f2 (pos + (Utf8.decode T pos).2)) = runeL (runesOf T)) := ⟨by have := HL.out.1; rw [he2] at this; simpa [runeL] using this⟩
      clear HM0 HO HB HL he2
      generalize hd : Utf8.decode T pos = d at *
      obtain ⟨r, wd⟩ := d
      simp only at *
      have hwl1 := hwl.1
      have HF := Aside0.mk hf2
      have hgi := HBI.out.size
      clear hd hf2
      generalize hWI : wr.iterAt (w.heap.size + 1) T (pos + wd) = wi at *
      go_wp2_with (first
        | (at_builtin
           refine wpList_append_own _ rfl _ _ 119 rfl w.heap.size 21 i0 _ 1 4 Tryz.underlying119 hi hz0 hz1 hz2 rfl (by decide) _ _ _ rfl (HOI.out.alloc _) ⟨wi.heap.size, 0, none⟩ 1 1 [.int .i32 (r : Int)] rfl rfl (World.news_of_block (cs := #[.int .i32 (r : Int)]) (t := 21) (fr := (0, 0)) (heap_alloc_new _ _)) (by simp [Value.oneCell']) (by simp only [maxLen]; omega) (by omega) (by simp; omega) ?_
           intro v3 w3 hown3 hg3 hx3
           clear hx3
           have HI3 := Aside0.mk (iter_grown (HOI.out.alloc _) hg3 (iter_alloc HI.out _))
           have HB3 := Aside0.mk ((HBI.out.alloc HBI.out.size _).grown hg3 (by have hz9 := HBI.out.size; simp; omega) (fun k hk => own_base HOI.out k hk))
           have HO3 := Aside0.mk hown3
           clear hown3 hg3))
      go_roundw
      case rel => exact ⟨pos + wd, f2, L ++ [(r : Int)], HI3.out, ⟨by simpa [nums] using HO3.out⟩, ⟨HL2.out, HF.out, hwl1⟩, by simp; omega, HB3⟩
      case measure => rw [iterPos_of HI3.out]; exact HMM.out
    · have hnx := fun ty => Lib.run_next_end_at (P := Tryz.prog) wr (w.heap.size + 1) T pos ty hit hp
      obtain rfl : L = U := by have := HL.out.1; rw [rns_end T fuel pos hp] at this; rw [← HPK.out, ← this]; simp [runeL]
      go_wp2
      go_ret
      exact ⟨_, rfl, own_int HO.out, HB.out⟩
end Go.Proofs.YtpdinahdcedmkaaGreatDoor.Ext
/- the document's Label and Head. -/
namespace Go.Proofs.YtpdinahdcedmkaaGreatDoor.Ext
open Go.Proofs.YtpdinahdcedmkaaGreatDoor.P
set_option linter.unusedVariables false
set_option linter.unusedSimpArgs false
open Go.RowKit Go.Proofs.YtpdinahdcedmkaaGreatDoorW.PrintWords Go.Proofs.YtpdinahdcedmkaaGreatDoorW.PrintLast Go.Proofs.YtpdinahdcedmkaaGreatDoorW.PrintMore

theorem goodL_runeL (l : List (Nat × Nat × Nat)) : goodL l = (runeL l).all fun r => decide (¬ badR r.toNat) := by
  unfold goodL runeL
  rw [List.all_map]
  rfl
theorem drop_getD (l : List Int) (i : Nat) (h : i < l.length) : l.drop i = l.getD i 0 :: l.drop (i + 1) := by
  rw [List.drop_eq_getElem_cons h]
  congr 1
  rw [List.getD_eq_getElem?_getD, List.getElem?_eq_getElem h]
  rfl
set_option maxHeartbeats 8000000 in
set_option maxRecDepth 100000 in
theorem r_label (s : ByteArray) (w : World) (hs : s.size ≤ 1073741824) : Calls Tryz.prog 68 #[.string s] w (BoolB (labelS s) w) := by
  have cR := Lib.hid (fun W => rrunes_walk s W hs)
  obtain ⟨R, hR⟩ : ∃ R, labelS s = R := ⟨_, rfl⟩
  rw [hR]
  unfold labelS at hR
  rw [goodL_runeL, show (runesOf s).length = (runeL (runesOf s)).length by unfold runeL; rw [List.length_map]] at hR
  have hnn : ∀ r ∈ runeL (runesOf s), 0 ≤ r := by unfold runeL; intro r hr; rw [List.mem_map] at hr; obtain ⟨x, _, rfl⟩ := hr; omega
  generalize runeL (runesOf s) = l at *
  have HR := Lib.hid hR
  have HNN := Lib.hid hnn
  clear hR hnn hs
  unfold RunesPost at cR
  go_enter Tryz.func68, Tryz.ntmps68
  go_wp2_with (first
    | (go_at_call 112
       with_reducible refine (cR.out _).mono ?_
       rintro e v ⟨u, rfl, hr, hb⟩
       obtain ⟨A, c, rfl, hle, hC⟩ := Kd.R_reads hr
       have HC := Aside0.mk hC
       have HB := Aside0.mk hb
       have hl := hC.2.1
       clear hr hC hb)
    | fail)
  go_loop [12] (fun v12 => ∃ i : Nat, v12 = .int .i64 i ∧ i ≤ l.length ∧ Aside0 ((((l.drop i).all fun r => decide (¬ badR r.toNat)) && (decide (1 ≤ l.length) && decide (l.length ≤ 24))) = R)) (fun v12 => l.length - (intOf v12).toNat)
  case atStart => exact ⟨0, rfl, by omega, ⟨HR.out⟩⟩
  case round =>
    obtain ⟨i, rfl, hi, HA⟩ := hrel
    by_cases hlt : i < l.length
    · obtain ⟨ad, e0, hx⟩ := Kd.at_int HC.out (i : Int) (by omega) (by omega)
      cases e0
      have HA1 := HA.out
      rw [drop_getD l i hlt, List.all_cons] at HA1
      simp only [rd, Int.toNat_natCast] at hx
      have h0 : 0 ≤ l.getD i 0 := HNN.out _ (by rw [List.getD_eq_getElem?_getD, List.getElem?_eq_getElem hlt]; exact List.getElem_mem hlt)
      generalize l.getD i 0 = r at *
      obtain ⟨r, rfl⟩ := Int.eq_ofNat_of_zero_le h0
      clear h0 HA
      rw [Int.toNat_natCast] at HA1
      by_cases hbad : badR r
      · have hU : R = false := by rw [← HA1, decide_eq_false (not_not_intro hbad)]; rfl
        subst hU
        clear HA1
        unfold badR at hbad
        rcases hbad with hb | hb | rfl | rfl | rfl | rfl | rfl | rfl | rfl | rfl
        · have t1 : (r : Int) < 32 := by omega
          have q1 : ((r : Int) == 32) = false := beq_eq_false_iff_ne.2 (by omega)
          have q2 : ((r : Int) == 160) = false := beq_eq_false_iff_ne.2 (by omega)
          have q3 : ((r : Int) == 8232) = false := beq_eq_false_iff_ne.2 (by omega)
          have q4 : ((r : Int) == 8233) = false := beq_eq_false_iff_ne.2 (by omega)
          have q5 : ((r : Int) == 12288) = false := beq_eq_false_iff_ne.2 (by omega)
          clear hb
          go_wp2
          go_ret
          exact ⟨rfl, HB.out⟩
        · have t1 : ¬ (r : Int) < 32 := by omega
          have t2 : (127 : Int) ≤ (r : Int) := by omega
          have t3 : (r : Int) < 160 := by omega
          have q1 : ((r : Int) == 32) = false := beq_eq_false_iff_ne.2 (by omega)
          have q2 : ((r : Int) == 160) = false := beq_eq_false_iff_ne.2 (by omega)
          have q3 : ((r : Int) == 8232) = false := beq_eq_false_iff_ne.2 (by omega)
          have q4 : ((r : Int) == 8233) = false := beq_eq_false_iff_ne.2 (by omega)
          have q5 : ((r : Int) == 12288) = false := beq_eq_false_iff_ne.2 (by omega)
          clear hb
          go_wp2
          go_ret
          exact ⟨rfl, HB.out⟩
        all_goals
          go_wp2
          go_ret
          exact ⟨rfl, HB.out⟩
      · have HA2 := Aside0.mk (show (((l.drop (i + 1)).all fun r => decide (¬ badR r.toNat)) && (decide (1 ≤ l.length) && decide (l.length ≤ 24))) = R by rw [← HA1, decide_eq_true hbad]; rfl)
        clear HA1
        unfold badR at hbad
        have t1 : ¬ (r : Int) < 32 := by omega
        have q1 : ((r : Int) == 32) = false := beq_eq_false_iff_ne.2 (by omega)
        have q2 : ((r : Int) == 160) = false := beq_eq_false_iff_ne.2 (by omega)
        have q3 : ((r : Int) == 8232) = false := beq_eq_false_iff_ne.2 (by omega)
        have q4 : ((r : Int) == 8233) = false := beq_eq_false_iff_ne.2 (by omega)
        have q5 : ((r : Int) == 12288) = false := beq_eq_false_iff_ne.2 (by omega)
        have q6 : ((r : Int) == 34) = false := beq_eq_false_iff_ne.2 (by omega)
        have q7 : ((r : Int) == 92) = false := beq_eq_false_iff_ne.2 (by omega)
        have q8 : ((r : Int) == 65533) = false := beq_eq_false_iff_ne.2 (by omega)
        by_cases t2 : (127 : Int) ≤ (r : Int)
        · have t3 : ¬ (r : Int) < 160 := by omega
          clear hbad
          go_wp2
          go_round
          case rel => exact ⟨i + 1, by go_num, by omega, HA2⟩
          case measure => simp [intOf]; omega
        · clear hbad
          go_wp2
          go_round
          case rel => exact ⟨i + 1, by go_num, by omega, HA2⟩
          case measure => simp [intOf]; omega
    · have hA := HA.out
      rw [List.drop_of_length_le (by omega)] at hA
      have hA : (decide (1 ≤ l.length) && decide (l.length ≤ 24)) = R := hA
      have HA2 := Lib.hid hA
      clear hA HA
      go_wp2
      all_goals
        go_ret
        refine boolB_i (Eq.trans ?_ HA2.out) HB.out
        first
          | (rw [decide_eq_true (show 1 ≤ l.length by omega), Bool.true_and]; exact decide_eq_decide.2 (by omega))
          | (rw [decide_eq_false (show ¬ 1 ≤ l.length by omega)]; rfl)
theorem lt_snoc {P : Nat → Prop} {j : Nat} (h : ∀ k < j, P k) (hj : P j) : ∀ k < j + 1, P k := fun k hk => by
  rcases Nat.lt_or_eq_of_le (Nat.le_of_lt_succ hk) with h1 | rfl
  · exact h k h1
  · exact hj
theorem dupS (l : List ByteArray) (i j : Nat) (hj : j < i) (hi : i < l.length) (h : l.getD i ByteArray.empty = l.getD j ByteArray.empty) : hasStr (l.take i) (l.getD i ByteArray.empty) = true := by
  unfold hasStr
  apply decide_eq_true
  unfold idxS
  rw [List.findIdx_lt_length]
  refine ⟨l.getD j ByteArray.empty, ?_, by simpa using h.symm⟩
  rw [List.getD_eq_getElem?_getD, List.getElem?_eq_getElem (by omega)]
  rw [List.mem_take_iff_getElem]
  exact ⟨j, by omega, rfl⟩
theorem noDupS (l : List ByteArray) (i : Nat) (hi : i < l.length) (h : ∀ j < i, l.getD j ByteArray.empty ≠ l.getD i ByteArray.empty) : hasStr (l.take i) (l.getD i ByteArray.empty) = false := by
  unfold hasStr
  apply decide_eq_false
  apply idxS_none
  intro j hj
  rw [List.length_take] at hj
  have := h j (by omega)
  rwa [List.getD_eq_getElem?_getD, List.getElem?_take_of_lt (by omega), ← List.getD_eq_getElem?_getD]
theorem namesOk_no (l : List ByteArray) (n m : Nat) (h : namesOk l n = false) (hnm : n ≤ m) : namesOk l m = false := by
  cases h2 : namesOk l m with
  | false => rfl
  | true => rw [namesOk_le l n m h2 hnm] at h; cases h
set_option maxHeartbeats 8000000 in
set_option maxRecDepth 100000 in
theorem r_head (p : Plan) (cp : List Value) (w : World) (hP : k25.K w p cp) (hp : PlanBd p) (hsm : ∀ i, (p.f2.getD i ByteArray.empty).size ≤ 1073741824) :
    Calls Tryz.prog 27 #[.agg cp.toArray] w (BoolB (headedS p.f0 p.f1 p.f2) w) := by
  have P0 := Aside0.mk (Bx.new w cp 25)
  obtain ⟨B2, d2, B3, d3, rfl, m2, e2, m3, e3⟩ := k25_open hP
  have HC := Aside0.mk e2
  have hle := m2
  have hn : p.f2.length ≤ 1048576 := hp.few
  have cL := Lib.hid (fun i W => r_label (p.f2.getD i ByteArray.empty) W (hsm i))
  clear hP hp hsm m2 e2 m3 e3
  obtain ⟨R, hR⟩ : ∃ R, headedS p.f0 p.f1 p.f2 = R := ⟨_, rfl⟩
  rw [hR]
  unfold headedS at hR
  have HR := Lib.hid hR
  clear hR
  generalize p.f2 = l at *
  generalize p.f0 = a at *
  generalize p.f1 = b at *
  have r0 := P0.out.c 0
  have r1 := P0.out.c 1
  have r2 := P0.out.c 2
  go_enter Tryz.func27, Tryz.ntmps27
  go_upto_region 3 with fail
  all_goals try
    (go_ret
     refine boolB_i ?_ P0.out.hb
     rw [← HR.out, decide_eq_false (by omega)]
     rfl
     done)
  have hc : 8 ≤ a ∧ a ≤ 2048 ∧ 1 ≤ b ∧ b ≤ 1024 ∧ 1 ≤ l.length ∧ l.length ≤ 16 := by omega
  have hR2 : namesOk l l.length = R := by rw [← HR.out, decide_eq_true hc]; rfl
  have HR2 := Lib.hid hR2
  clear hR2 HR hc
  go_upto_region 4 with fail
  go_wp2
  go_loopw [40] (fun v40 wr => ∃ i : Nat, v40 = .int .i64 i ∧ i ≤ l.length ∧ Aside0 (namesOk l i = true) ∧ Aside0 (Bx w wr w.heap.size [.int .i64 a, .int .i64 b, .slice B2 l.length d2, .slice B3 p.f3.length d3] 25)) (fun v40 _ => l.length - (intOf v40).toNat)
  case atStart => exact ⟨0, rfl, by omega, ⟨rfl⟩, P0⟩
  case round =>
    clear r0 r1 r2
    obtain ⟨i, rfl, hi, HA, HP⟩ := hrel
    by_cases hlt : i < l.length
    · obtain ⟨ad, e0, hx⟩ := Kd.at_string HC.out (i : Int) (by omega) (by omega)
      cases e0
      simp only [rdOf, Int.toNat_natCast] at hx
      have hx1 := (HP.out.hb.cell (World.block_lt_of_cell? w _ hx)).trans hx
      clear hx
      have hs1 := namesOk_succ l i
      rw [HA.out, Bool.true_and] at hs1
      have HS := Lib.hid hs1
      have HNO := Lib.hid (fun h => namesOk_no l (i + 1) l.length h (by omega))
      have c1 := Lib.hid (cL.out i)
      have HD := Lib.hid (fun j hj h => dupS l i j hj hlt h)
      have HN := Lib.hid (fun h => noDupS l i hlt h)
      clear hs1 HA
      generalize l.getD i ByteArray.empty = si at *
      generalize labelS si = bl at *
      cases bl with
      | false =>
        go_wp2_with (first
          | (go_at_call 68
             with_reducible refine (c1.out _).mono ?_
             rintro e v ⟨rfl, hb⟩
             replace HP := Aside0.mk (HP.out.next hb)
             clear hb)
          | fail)
        go_ret
        refine boolB_i ?_ HP.out.hb
        rw [← HR2.out, HNO.out (by rw [HS.out]; rfl)]
      | true =>
        have hz : (0 : Int) ≤ (i : Int) := by omega
        go_wp2_with (first
          | (go_at_call 68
             with_reducible refine (c1.out _).mono ?_
             rintro e v ⟨rfl, hb⟩
             replace HP := Aside0.mk (HP.out.next hb)
             clear hb hx1
             have r2 := HP.out.c 2)
          | fail)
        go_loop [53] (fun v53 => ∃ j : Nat, v53 = .int .i64 j ∧ j ≤ i ∧ Aside0 (∀ k < j, l.getD k ByteArray.empty ≠ si)) (fun v53 => i - (intOf v53).toNat)
        case atStart => exact ⟨0, rfl, by omega, ⟨fun k hk => by omega⟩⟩
        case round =>
          obtain ⟨j, rfl, hj, HJ⟩ := hrel
          by_cases hji : j < i
          · obtain ⟨ad', e1, hy⟩ := Kd.at_string HC.out (j : Int) (by omega) (by omega)
            cases e1
            simp only [rdOf, Int.toNat_natCast] at hy
            have hy1 := (HP.out.hb.cell (World.block_lt_of_cell? w _ hy)).trans hy
            clear hy
            have HE := Lib.hid (HD.out j hji)
            have HK := Lib.hid (lt_snoc (P := fun k => l.getD k ByteArray.empty ≠ si) HJ.out)
            clear HJ
            generalize l.getD j ByteArray.empty = sj at *
            by_cases he : sj = si
            · have te : (si.toList == sj.toList) = true := by rw [he]; exact beq_self_eq_true _
              have HE2 := Lib.hid (HE.out he.symm)
              clear he HE HK
              go_wp2
              go_ret
              exact boolB_i (by rw [← HR2.out, HNO.out (by rw [HS.out, HE2.out]; rfl)]) HP.out.hb
            · have te := str_ne (fun h => he h.symm)
              have HK2 := Aside0.mk (HK.out he)
              clear he HE HK
              go_wp2
              go_round
              case rel => exact ⟨j + 1, by go_num, by omega, HK2⟩
              case measure => simp [intOf]; omega
          · obtain rfl : j = i := by omega
            have HK := Aside0.mk (HN.out HJ.out)
            go_wp2
            go_roundw
            case rel => exact ⟨j + 1, by go_num, by omega, ⟨by rw [HS.out, HK.out]; rfl⟩, HP⟩
            case measure => simp [intOf]; omega
    · obtain rfl : i = l.length := by omega
      go_wp2
      go_ret
      exact boolB_i (by rw [← HR2.out, HA.out]) HP.out.hb
end Go.Proofs.YtpdinahdcedmkaaGreatDoor.Ext
