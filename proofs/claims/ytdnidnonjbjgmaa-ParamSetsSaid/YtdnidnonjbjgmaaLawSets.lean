/- liverylaw06.ParamSets: true. -/
import Derived.Test.YtdnidnonjbjgmaaSlices
import Derived.Test.YtdnidnonjbjgmaaPLive
import Derived.Deep.RegionWith
namespace Go.Proofs.Ytdnidnonjbjgmaa.Ext
set_option linter.unusedVariables false
open Go.RowKit Go.Proofs.YtdnidnonjbjgmaaW.PrintWords Go.Proofs.YtdnidnonjbjgmaaW.PrintLast Go.Proofs.YtdnidnonjbjgmaaW.PrintMore Go.Proofs.Ytdnidnonjbjgmaa.Spec
attribute [local go_sem high] eqOts eqLms eqXms

theorem keep_row {W v : World} {b : Nat} {o : Obj} (h : W.heap[b]? = some o) (hb : Below W.heap.size W v) : v.heap[b]? = some o := (hb.block b (Array.getElem?_eq_some_iff.1 h).1).trans h
theorem keep_new {W : World} {b : Nat} {o o' : Obj} (h : W.heap[b]? = some o) : (W.alloc o').heap[b]? = some o := (Below.heap_alloc W o' b (Array.getElem?_eq_some_iff.1 h).1).trans h
theorem equal_same (A : Option Addr) (c : Nat) (a : List Int) (B : Option Addr) (d : Nat) (w : World) (hA : Kd.C (Kd.int .u32) w A a.length a) (hB : Kd.C (Kd.int .u32) w B a.length a) (hl : a.length ≤ 1048576) (hc : a.length ≤ c) (hd : a.length ≤ d) :
    Calls Try.prog 16 #[.slice A a.length c, .slice B a.length d] w fun e w' => e = .returned (.bool true) ∧ Below w.heap.size w w' := by
  have := equal_walk A c a B d a w hA hB hl hc hd
  rwa [decide_eq_true rfl] at this
theorem keep2 {w W v : World} {A : Option Addr} {L : List Int} (h1 : Aside0 (Below w.heap.size w W)) (h2 : Aside0 (Kd.C (Kd.int .u32) W A L.length L)) (hb : Below W.heap.size W v) : Aside0 (Below w.heap.size w v) ∧ Aside0 (Kd.C (Kd.int .u32) v A L.length L) := ⟨⟨h1.out.trans (hb.mono h1.out.size)⟩, ⟨Kd.C_below h2.out hb⟩⟩
theorem enc_eqO (o : OtsR) : ∃ b0 b1 b2 b3 b4 b5, o = ⟨b0, b1, b2, b3, b4, b5⟩ := ⟨_, _, _, _, _, _, rfl⟩
set_option maxHeartbeats 4000000 in
set_option maxRecDepth 100000 in
theorem law_Sets (c : Int) (m : Nat) (w : World) (g0 : 0 ≤ c) (g1 : c < 4294967296) (m1 : m ≤ 255) :
    Calls Try.prog 4 #[.int .u32 c, .int .u8 (m : Int)] w fun e w' => e = .returned (.bool true) ∧ Below w.heap.size w w' := by
  have C1 := fun W => c_Ots c W g0
  have C2 := fun W => c_Lms c W g0 g1
  have C3 := fun W => c_Xmss c W g0 g1
  have C4 := fun W => r_Ots c W g0 g1
  have C5 := fun W => r_Lms c W g0 g1
  have C6 := fun W => r_Xmss c W g0 g1
  generalize ots c = o at *
  generalize lms c = l at *
  generalize xms c = x at *
  obtain ⟨⟨a0, a1, a2, a3, a4, a5⟩, eo⟩ := o
  obtain ⟨⟨b0, b1, b2, b3⟩, el⟩ := l
  obtain ⟨⟨d0, d1, d2, d3, d4⟩, ex⟩ := x
  simp only [OtsR.enc, LmsR.enc, XmsR.enc] at *
  have c1 := Lib.hid C1
  have c2 := Lib.hid C2
  have c3 := Lib.hid C3
  have c4 := Lib.hid C4
  have c5 := Lib.hid C5
  have c6 := Lib.hid C6
  have cl := Lib.hid c_live
  clear C1 C2 C3 C4 C5 C6
  go_enter Try.func4, Try.ntmps4
  go_wp2_with (first
    | (go_at_call 8
       with_reducible refine (c1.out _).mono ?_
       rintro e v1 ⟨rfl, hb⟩
       have HB := Aside0.mk hb
       clear hb)
    | (go_at_call 10
       with_reducible refine (c2.out _).mono ?_
       rintro e v2 ⟨rfl, hb⟩
       have HR1_2 := Aside0.mk (keep_row (World.alloc_heap_new v1 (Obj.cells #[.int .u32 a0, .bool a1, .int .i64 a2, .int .i64 a3, .int .i64 a4, .int .i64 a5] 24)) hb)
       replace HB := Aside0.mk ((HB.out.alloc HB.out.size (Obj.cells #[.int .u32 a0, .bool a1, .int .i64 a2, .int .i64 a3, .int .i64 a4, .int .i64 a5] 24)).trans (hb.mono (by have := HB.out.size; simp; omega)))
       clear hb)
    | (go_at_call 11
       with_reducible refine (c3.out _).mono ?_
       rintro e v3 ⟨rfl, hb⟩
       have HR1_3 := Aside0.mk (keep_row (keep_new HR1_2.out) hb)
       have HR2_3 := Aside0.mk (keep_row (World.alloc_heap_new v2 (Obj.cells #[.int .u32 b0, .bool b1, .int .i64 b2, .int .i64 b3] 31)) hb)
       replace HB := Aside0.mk ((HB.out.alloc HB.out.size (Obj.cells #[.int .u32 b0, .bool b1, .int .i64 b2, .int .i64 b3] 31)).trans (hb.mono (by have := HB.out.size; simp; omega)))
       clear HR1_2
       clear hb)
    | (go_at_call 12
       with_reducible refine (c4.out _).mono ?_
       rintro e v4 ⟨rfl, hb⟩
       have HR1_4 := Aside0.mk (keep_row (keep_new HR1_3.out) hb)
       have HR2_4 := Aside0.mk (keep_row (keep_new HR2_3.out) hb)
       have HR3_4 := Aside0.mk (keep_row (World.alloc_heap_new v3 (Obj.cells #[.int .u32 d0, .bool d1, .int .i64 d2, .int .i64 d3, .int .i64 d4] 35)) hb)
       replace HB := Aside0.mk ((HB.out.alloc HB.out.size (Obj.cells #[.int .u32 d0, .bool d1, .int .i64 d2, .int .i64 d3, .int .i64 d4] 35)).trans (hb.mono (by have := HB.out.size; simp; omega)))
       clear HR1_3 HR2_3
       clear hb)
    | (go_at_call 13
       with_reducible refine (c5.out _).mono ?_
       rintro e v5 ⟨rfl, hb⟩
       have HR1_5 := Aside0.mk (keep_row (keep_new HR1_4.out) hb)
       have HR2_5 := Aside0.mk (keep_row (keep_new HR2_4.out) hb)
       have HR3_5 := Aside0.mk (keep_row (keep_new HR3_4.out) hb)
       have HR4_5 := Aside0.mk (keep_row (World.alloc_heap_new v4 (Obj.cells #[.int .u32 a0, .bool a1, .int .i64 a2, .int .i64 a3, .int .i64 a4, .int .i64 a5] 24)) hb)
       replace HB := Aside0.mk ((HB.out.alloc HB.out.size (Obj.cells #[.int .u32 a0, .bool a1, .int .i64 a2, .int .i64 a3, .int .i64 a4, .int .i64 a5] 24)).trans (hb.mono (by have := HB.out.size; simp; omega)))
       clear HR1_4 HR2_4 HR3_4
       clear hb)
    | (go_at_call 14
       with_reducible refine (c6.out _).mono ?_
       rintro e v6 ⟨rfl, hb⟩
       have HR1_6 := Aside0.mk (keep_row (keep_new HR1_5.out) hb)
       have HR2_6 := Aside0.mk (keep_row (keep_new HR2_5.out) hb)
       have HR3_6 := Aside0.mk (keep_row (keep_new HR3_5.out) hb)
       have HR4_6 := Aside0.mk (keep_row (keep_new HR4_5.out) hb)
       have HR5_6 := Aside0.mk (keep_row (World.alloc_heap_new v5 (Obj.cells #[.int .u32 b0, .bool b1, .int .i64 b2, .int .i64 b3] 31)) hb)
       replace HB := Aside0.mk ((HB.out.alloc HB.out.size (Obj.cells #[.int .u32 b0, .bool b1, .int .i64 b2, .int .i64 b3] 31)).trans (hb.mono (by have := HB.out.size; simp; omega)))
       clear HR1_5 HR2_5 HR3_5 HR4_5
       clear hb)
    | (go_at_call 9
       with_reducible refine (cl.out _).mono ?_
       rintro e v7 ⟨rfl, hb⟩
       have HR1_7 := Aside0.mk (keep_row (keep_new HR1_6.out) hb)
       have HR2_7 := Aside0.mk (keep_row (keep_new HR2_6.out) hb)
       have HR3_7 := Aside0.mk (keep_row (keep_new HR3_6.out) hb)
       have HR4_7 := Aside0.mk (keep_row (keep_new HR4_6.out) hb)
       have HR5_7 := Aside0.mk (keep_row (keep_new HR5_6.out) hb)
       have HR6_7 := Aside0.mk (keep_row (World.alloc_heap_new v6 (Obj.cells #[.int .u32 d0, .bool d1, .int .i64 d2, .int .i64 d3, .int .i64 d4] 35)) hb)
       replace HB := Aside0.mk ((HB.out.alloc HB.out.size (Obj.cells #[.int .u32 d0, .bool d1, .int .i64 d2, .int .i64 d3, .int .i64 d4] 35)).trans (hb.mono (by have := HB.out.size; simp; omega)))
       clear HR1_6 HR2_6 HR3_6 HR4_6 HR5_6
       have hq1 := fun o => blk_cell HR1_7.out o
       have hq2 := fun o => blk_cell HR2_7.out o
       have hq3 := fun o => blk_cell HR3_7.out o
       have hq4 := fun o => blk_cell HR4_7.out o
       have hq5 := fun o => blk_cell HR5_7.out o
       have hq6 := fun o => blk_cell HR6_7.out o
       clear hb)
    | fail)
  -- the loop
  clear hq1 hq2 hq3 hq4 hq5 hq6 HR1_7 HR2_7 HR3_7 HR4_7 HR5_7 HR6_7 c1 c2 c3 c4 c5 c6 cl
  go_loopw [17] (fun v17 wr => ∃ k : Int, 1 ≤ k ∧ k ≤ 4 ∧ v17 = .int .i64 k ∧ Aside0 (Below w.heap.size w wr)) (fun v17 _ => (5 - intOf v17).toNat)
  case atStart => exact ⟨1, by omega, by omega, rfl, HB⟩
  case round =>
    clear HB
    obtain ⟨k, hk1, hk2, rfl, hB⟩ := hrel
    by_cases hk : k = 4
    · subst hk
      go_wp2
      go_ret
      exact ⟨rfl, hB.out⟩
    · have hk3 : k ≤ 3 := by omega
      have K1 := fun W => r_Codes k W
      rw [refCodes_eq k (by omega)] at K1
      have K2 := fun W => c_codesOf k 1048576 (by omega) W
      have K3 := fun W => c_codesOf k m (by omega) W
      have hlen : (codesOf k).length ≤ 89 := by unfold codesOf; rw [if_pos (by omega)]; exact codesL_len _ _
      rw [show ((1048576 : Nat) : Int) = 1048576 from rfl] at K2
      generalize codesOf k = L at *
      rw [List.take_of_length_le (by omega)] at K2
      have k1 := Lib.hid K1
      have k2 := Lib.hid K2
      clear K1 K2 hk
      by_cases hmin : L.length ≤ m
      · rw [List.take_of_length_le (by omega)] at K3
        have k3 := Lib.hid K3
        clear K3
        go_wp2_with (first
          | (go_at_call 15
             refine (k1.out _).mono ?_
             rintro e v1 ⟨u, rfl, hr, hb⟩
             obtain ⟨Aw, cw, rfl, hlw, hCw⟩ := Kd.R_reads hr
             have HW1 := Aside0.mk hCw
             have HLW := Aside0.mk hlw
             have HB1 := Aside0.mk (hB.out.trans (hb.mono hB.out.size))
             clear hb hCw hr)
          | fail)
        have HEq := Lib.hid equal_same
        have hmi : (L.length : Int) ≤ (m : Int) := by omega
        have hwm : IntKind.i64.wrap (m : Int) = (m : Int) := by rw [IntKind.wrap_i64]; omega
        replace HB1 := Aside0.mk HB1.out.drew
        replace HW1 := Aside0.mk (Kd.C_drew HW1.out)
        have hq1 : (0 : Int) ≤ (L.length : Int) := by omega
        have hq2 : (L.length : Int) ≤ (cw : Int) := by omega
        go_region_held3 (fun W => Aside0 (Below w.heap.size w W) ∧ Aside0 (Kd.C (Kd.int .u32) W Aw L.length L))
          (first
            | exact ⟨HB1, HW1⟩
            | (go_split_ands
               exact keep2 (by assumption) (by assumption) hbz))
          (first
            | (go_simp
               go_at_call 17
               first
               | (with_reducible refine (k3.out _).mono ?_
                  rintro e v4 ⟨u, rfl, hr, hbz⟩
                  obtain ⟨A4, c4, rfl, hl4, hC4⟩ := Kd.R_reads hr
                  have HE4 := Aside0.mk hC4
                  have HL4 := Aside0.mk hl4
                  clear hC4 hr hl4)
               | (with_reducible refine (k2.out _).mono ?_
                  rintro e v2 ⟨u, rfl, hr, hbz⟩
                  obtain ⟨A2, c2, rfl, hl2, hC2⟩ := Kd.R_reads hr
                  have HE2 := Aside0.mk hC2
                  have HL2 := Aside0.mk hl2
                  clear hC2 hr hl2))
            | (go_simp
               go_at_call 16
               go_split_ands
               first
               | (with_reducible refine (HEq.out A4 c4 L Aw cw _ HE4.out (Aside0.out (by assumption)) (by omega) HL4.out HLW.out).mono ?_
                  rintro e v5 ⟨rfl, hbz⟩)
               | (with_reducible refine (HEq.out A2 c2 L Aw cw _ HE2.out (Aside0.out (by assumption)) (by omega) HL2.out HLW.out).mono ?_
                  rintro e v3 ⟨rfl, hbz⟩)))
        all_goals
          go_wp2
          go_roundw
          case rel =>
            go_split_ands
            exact ⟨k + 1, by omega, by omega, by go_num, by assumption⟩
          case measure => simp [intOf]; omega
      · have hmin2 : m ≤ L.length := by omega
        have hML : (L.take m).length = m := by rw [List.length_take]; omega
        have hCT : ∀ (W : World) (A : Option Addr), Kd.C (Kd.int .u32) W A L.length L → Kd.C (Kd.int .u32) W A m (L.take m) := fun W A h => by
          have := Kd.C_take h (show m ≤ L.length by omega)
          rwa [hML] at this
        have HCT := Lib.hid hCT
        have H2 := fun (A : Option Addr) (c : Nat) (B : Option Addr) (d : Nat) => equal_same A c (L.take m) B d
        rw [hML] at H2
        have HEq2 := Lib.hid H2
        clear H2 hCT
        generalize L.take m = M at *
        have k3 := Lib.hid K3
        have HML := Aside0.mk hML
        clear K3 hML
        go_wp2_with (first
          | (go_at_call 15
             refine (k1.out _).mono ?_
             rintro e v1 ⟨u, rfl, hr, hb⟩
             obtain ⟨Aw, cw, rfl, hlw, hCw⟩ := Kd.R_reads hr
             have HW1 := Aside0.mk hCw
             have HLW := Aside0.mk hlw
             have HB1 := Aside0.mk (hB.out.trans (hb.mono hB.out.size))
             clear hb hCw hr)
          | fail)
        have HEq := Lib.hid equal_same
        have hmi : ¬ (L.length : Int) ≤ (m : Int) := by omega
        have hmj : (m : Int) < (L.length : Int) := by omega
        have hmk : (m : Int) ≤ (L.length : Int) := by omega
        have hwm : IntKind.i64.wrap (m : Int) = (m : Int) := by rw [IntKind.wrap_i64]; omega
        replace HB1 := Aside0.mk HB1.out.drew
        replace HW1 := Aside0.mk (Kd.C_drew HW1.out)
        have hq1 : (0 : Int) ≤ (m : Int) := by omega
        have hq2 : (m : Int) ≤ (cw : Int) := by omega
        have hq3 : m ≤ cw := by omega
        go_region_held3 (fun W => Aside0 (Below w.heap.size w W) ∧ Aside0 (Kd.C (Kd.int .u32) W Aw L.length L))
          (first
            | exact ⟨HB1, HW1⟩
            | (go_split_ands
               exact keep2 (by assumption) (by assumption) hbz))
          (first
            | (go_simp
               go_at_call 17
               first
               | (with_reducible refine (k3.out _).mono ?_
                  rintro e v4 ⟨u, rfl, hr, hbz⟩
                  obtain ⟨A4, c4, rfl, hl4, hC4⟩ := Kd.R_reads hr
                  rw [HML.out] at hl4 hC4 ⊢
                  have HE4 := Aside0.mk hC4
                  have HL4 := Aside0.mk hl4
                  clear hC4 hr hl4)
               | (with_reducible refine (k2.out _).mono ?_
                  rintro e v2 ⟨u, rfl, hr, hbz⟩
                  obtain ⟨A2, c2, rfl, hl2, hC2⟩ := Kd.R_reads hr
                  have HE2 := Aside0.mk hC2
                  have HL2 := Aside0.mk hl2
                  clear hC2 hr hl2))
            | (go_simp
               go_at_call 16
               go_split_ands
               first
               | (with_reducible refine (HEq2.out A4 c4 Aw cw _ HE4.out (HCT.out _ _ (Aside0.out (by assumption))) (by omega) HL4.out (by omega)).mono ?_
                  rintro e v5 ⟨rfl, hbz⟩)
               | (with_reducible refine (HEq.out A2 c2 L Aw cw _ HE2.out (Aside0.out (by assumption)) (by omega) HL2.out HLW.out).mono ?_
                  rintro e v3 ⟨rfl, hbz⟩)))
        all_goals
          go_wp2
          go_roundw
          case rel =>
            go_split_ands
            exact ⟨k + 1, by omega, by omega, by go_num, by assumption⟩
          case measure => simp [intOf]; omega
end Go.Proofs.Ytdnidnonjbjgmaa.Ext
