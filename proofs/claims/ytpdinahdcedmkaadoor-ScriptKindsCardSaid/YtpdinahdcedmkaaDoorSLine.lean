/- script.line: an act's name, and what it has of each of its letters. -/
import Derived.Test.YtpdinahdcedmkaaDoorSExt
import Derived.Test.YtpdinahdcedmkaaDoorSSaid
namespace Go.Proofs.YtpdinahdcedmkaaDoor.Ext
open Go.Proofs.YtpdinahdcedmkaaDoor.P
set_option linter.unusedVariables false
set_option linter.unusedSimpArgs false
open Go.RowKit Go.Proofs.YtpdinahdcedmkaaDoorW.PrintWords Go.Proofs.YtpdinahdcedmkaaDoorW.PrintLast Go.Proofs.YtpdinahdcedmkaaDoorW.PrintMore

def lineGo (sd : Int → Option ByteArray) : List UInt8 → ByteArray → Option ByteArray
  | [], acc => some acc
  | c :: t, acc => (sd (c.toNat : Int)).bind fun x => if x.size ≤ 1099511627776 ∧ acc.size ≤ 1099511627776 then lineGo sd t (acc ++ (⟨#[32]⟩ ++ x)) else none
theorem lineGo_mono {f g : Int → Option ByteArray} (h : ∀ c, LeO (f c) (g c)) : ∀ l acc, LeO (lineGo f l acc) (lineGo g l acc)
  | [], acc => LeO.refl _
  | c :: t, acc => by
    unfold lineGo
    refine LeO.bind (h _) fun x => ?_
    exact LeO.ite (lineGo_mono h t _) (LeO.refl _)
theorem rowOf_ascii (d : Int) (i : Nat) (h : i < (rowOf d).2.size) : ((rowOf d).2[i]'h).toNat < 128 := by
  have key : ∀ n : Fin 18, ∀ i : Fin 8, i.val < (rowOf ((n.val : Nat) : Int)).2.size → ((rowOf ((n.val : Nat) : Int)).2.data.toList.getD i.val 0).toNat < 128 := by decide +kernel
  have hsz : ∀ n : Fin 18, (rowOf ((n.val : Nat) : Int)).2.size ≤ 8 := by decide +kernel
  have e : ∀ (s : ByteArray) (h : i < s.size), s[i]'h = s.data.toList.getD i 0 := fun s h => by
    rw [List.getD_eq_getElem?_getD, List.getElem?_eq_getElem (by rw [Array.length_toList]; exact h)]; rfl
  rw [e]
  by_cases hd : 0 ≤ d ∧ d < 18
  · obtain ⟨n, rfl⟩ := Int.eq_ofNat_of_zero_le hd.1
    have hn : n < 18 := by omega
    have := hsz ⟨n, hn⟩
    exact key ⟨n, hn⟩ ⟨i, by simp only at this; omega⟩ h
  · exfalso
    unfold rowOf at h
    rw [if_neg hd] at h
    exact absurd h (by simp [ByteArray.size])
theorem rowOf_drop (s : ByteArray) (pos : Nat) (h : pos < s.size) : s.data.toList.drop pos = s[pos] :: s.data.toList.drop (pos + 1) := by
  rw [List.drop_eq_getElem_cons (by rw [Array.length_toList]; exact h)]
  rfl
theorem rowOf_sizes (d : Int) : (rowOf d).2.size ≤ 8 ∧ (rowOf d).1.size ≤ 20 := by
  have hsz : ∀ n : Fin 18, (rowOf ((n.val : Nat) : Int)).2.size ≤ 8 ∧ (rowOf ((n.val : Nat) : Int)).1.size ≤ 20 := by decide +kernel
  by_cases hd : 0 ≤ d ∧ d < 18
  · obtain ⟨n, rfl⟩ := Int.eq_ofNat_of_zero_le hd.1
    exact hsz ⟨n, by omega⟩
  · unfold rowOf; rw [if_neg hd]; decide
def script_line.f (k : Nat) (a0_0 : Int) (a0_1 : Int) (l0_2 : List ByteArray) (l0_3 : List (S42)) (a1_0 : Int) (a1_1 : Int) (a1_2 : Int) (a1_3 : Int) (l1_4 : List (S72)) (a1_5 : Int) (a1_6 : Int) (a1_7 : Int) (a1_8 : Int) (a1_9 : Int) (a1_10 : Int) (l1_11 : List Int) (l1_12 : List Bool) : Option ByteArray := lineGo (fun c => script_said.f k a0_0 a0_1 l0_2 l0_3 a1_0 a1_1 a1_2 a1_3 l1_4 a1_5 a1_6 a1_7 a1_8 a1_9 a1_10 l1_11 l1_12 c) (rowOf a1_0).2.data.toList (rowOf a1_0).1
theorem script_line.mono : ∀ y0 y1 y2 y3 y4 y5 y6 y7 y8 y9 y10 y11 y12 y13 y14 y15 y16 k, LeO (script_line.f k y0 y1 y2 y3 y4 y5 y6 y7 y8 y9 y10 y11 y12 y13 y14 y15 y16) (script_line.f (k + 1) y0 y1 y2 y3 y4 y5 y6 y7 y8 y9 y10 y11 y12 y13 y14 y15 y16) := by
  intro y0 y1 y2 y3 y4 y5 y6 y7 y8 y9 y10 y11 y12 y13 y14 y15 y16 k
  exact lineGo_mono (fun c => script_said.mono _ _ _ _ _ _ _ _ _ _ _ _ _ _ _ _ _ _ _) _ _
set_option maxHeartbeats 4000000 in
set_option maxRecDepth 100000 in
theorem script_line.calls (k : Nat) (a0_0 : Int) (a0_1 : Int) (A0_2 : Option Addr) (c0_2 : Nat) (l0_2 : List ByteArray) (A0_3 : Option Addr) (c0_3 : Nat) (l0_3 : List (S42)) (a1_0 : Int) (a1_1 : Int) (a1_2 : Int) (a1_3 : Int) (A1_4 : Option Addr) (c1_4 : Nat) (l1_4 : List (S72)) (a1_5 : Int) (a1_6 : Int) (a1_7 : Int) (a1_8 : Int) (a1_9 : Int) (a1_10 : Int) (A1_11 : Option Addr) (c1_11 : Nat) (l1_11 : List Int) (A1_12 : Option Addr) (c1_12 : Nat) (l1_12 : List Bool) (r : ByteArray) (w : World) (hr0_2 : Kd.C Kd.string w A0_2 l0_2.length l0_2) (hc0_2 : l0_2.length ≤ c0_2) (hr0_3 : Kd.C k42 w A0_3 l0_3.length l0_3) (hc0_3 : l0_3.length ≤ c0_3) (hr1_4 : Kd.C k72 w A1_4 l1_4.length l1_4) (hc1_4 : l1_4.length ≤ c1_4) (hr1_11 : Kd.C (Kd.int .u8) w A1_11 l1_11.length l1_11) (hc1_11 : l1_11.length ≤ c1_11) (hr1_12 : Kd.C Kd.bool w A1_12 l1_12.length l1_12) (hc1_12 : l1_12.length ≤ c1_12) (h : script_line.f k a0_0 a0_1 l0_2 l0_3 a1_0 a1_1 a1_2 a1_3 l1_4 a1_5 a1_6 a1_7 a1_8 a1_9 a1_10 l1_11 l1_12 = some r) (hT : Aside0 (Lib.Utf8Tabs 0 1 w) := by exact tabs_at HT (by repeat (first | (with_reducible first | exact HB.out | apply below_alloc | apply pw_below_drewN | apply below_drew1) | exact HB.out))) :
    Calls Tryd.prog 25 #[.agg #[.int .i64 a0_0, .int .i64 a0_1, .slice A0_2 l0_2.length c0_2, .slice A0_3 l0_3.length c0_3], .agg #[.int .i64 a1_0, .int .i64 a1_1, .int .i64 a1_2, .int .i64 a1_3, .slice A1_4 l1_4.length c1_4, .int .u32 a1_5, .int .u32 a1_6, .int .u32 a1_7, .int .u64 a1_8, .int .u64 a1_9, .int .i64 a1_10, .slice A1_11 l1_11.length c1_11, .slice A1_12 l1_12.length c1_12]] w fun e w' => e = .returned (.string r) ∧ Below w.heap.size w w' := by
  have HR0_2 := Aside0.mk hr0_2
  have HC0_2 := Aside0.mk hc0_2
  have HR0_3 := Aside0.mk hr0_3
  have HC0_3 := Aside0.mk hc0_3
  have HR1_4 := Aside0.mk hr1_4
  have HC1_4 := Aside0.mk hc1_4
  have HR1_11 := Aside0.mk hr1_11
  have HC1_11 := Aside0.mk hc1_11
  have HR1_12 := Aside0.mk hr1_12
  have HC1_12 := Aside0.mk hc1_12
  clear hr0_2 hc0_2 hr0_3 hc0_3 hr1_4 hc1_4 hr1_11 hc1_11 hr1_12 hc1_12
  have HT := hT
  clear hT
  have ca := Lib.hid (rowOf_ascii a1_0)
  have cz := Lib.hid (rowOf_sizes a1_0)
  have cn := Lib.hid (c_SName a1_0)
  have ch := Lib.hid (c_Has a1_0)
  have HF := Aside0.mk (show lineGo (fun c => script_said.f k a0_0 a0_1 l0_2 l0_3 a1_0 a1_1 a1_2 a1_3 l1_4 a1_5 a1_6 a1_7 a1_8 a1_9 a1_10 l1_11 l1_12 c) (rowOf a1_0).2.data.toList (rowOf a1_0).1 = some r from h)
  clear h
  generalize (rowOf a1_0).1 = nm at *
  generalize (rowOf a1_0).2 = hs at *
  go_enter Tryd.func25, Tryd.ntmps25
  have HP0 : Aside0 (((w.alloc (.cells #[.int .i64 a0_0, .int .i64 a0_1, .slice A0_2 l0_2.length c0_2, .slice A0_3 l0_3.length c0_3] 33)).alloc (.cells #[.int .i64 a1_0, .int .i64 a1_1, .int .i64 a1_2, .int .i64 a1_3, .slice A1_4 l1_4.length c1_4, .int .u32 a1_5, .int .u32 a1_6, .int .u32 a1_7, .int .u64 a1_8, .int .u64 a1_9, .int .i64 a1_10, .slice A1_11 l1_11.length c1_11, .slice A1_12 l1_12.length c1_12] 42)).heap[w.heap.size]? = some (.cells #[.int .i64 a0_0, .int .i64 a0_1, .slice A0_2 l0_2.length c0_2, .slice A0_3 l0_3.length c0_3] 33)) := ⟨knew (heap_alloc_new w _)⟩
  have HA0 : Aside0 (((w.alloc (.cells #[.int .i64 a0_0, .int .i64 a0_1, .slice A0_2 l0_2.length c0_2, .slice A0_3 l0_3.length c0_3] 33)).alloc (.cells #[.int .i64 a1_0, .int .i64 a1_1, .int .i64 a1_2, .int .i64 a1_3, .slice A1_4 l1_4.length c1_4, .int .u32 a1_5, .int .u32 a1_6, .int .u32 a1_7, .int .u64 a1_8, .int .u64 a1_9, .int .i64 a1_10, .slice A1_11 l1_11.length c1_11, .slice A1_12 l1_12.length c1_12] 42)).heap[w.heap.size + 1]? = some (.cells #[.int .i64 a1_0, .int .i64 a1_1, .int .i64 a1_2, .int .i64 a1_3, .slice A1_4 l1_4.length c1_4, .int .u32 a1_5, .int .u32 a1_6, .int .u32 a1_7, .int .u64 a1_8, .int .u64 a1_9, .int .i64 a1_10, .slice A1_11 l1_11.length c1_11, .slice A1_12 l1_12.length c1_12] 42)) := ⟨by have h := heap_alloc_new (w.alloc (.cells #[.int .i64 a0_0, .int .i64 a0_1, .slice A0_2 l0_2.length c0_2, .slice A0_3 l0_3.length c0_3] 33)) (.cells #[.int .i64 a1_0, .int .i64 a1_1, .int .i64 a1_2, .int .i64 a1_3, .slice A1_4 l1_4.length c1_4, .int .u32 a1_5, .int .u32 a1_6, .int .u32 a1_7, .int .u64 a1_8, .int .u64 a1_9, .int .i64 a1_10, .slice A1_11 l1_11.length c1_11, .slice A1_12 l1_12.length c1_12] 42); simpa using h⟩
  have HB0 := Aside0.mk (((Below.refl w.heap.size w).alloc (Nat.le_refl _) (.cells #[.int .i64 a0_0, .int .i64 a0_1, .slice A0_2 l0_2.length c0_2, .slice A0_3 l0_3.length c0_3] 33)).alloc (by simp) (.cells #[.int .i64 a1_0, .int .i64 a1_1, .int .i64 a1_2, .int .i64 a1_3, .slice A1_4 l1_4.length c1_4, .int .u32 a1_5, .int .u32 a1_6, .int .u32 a1_7, .int .u64 a1_8, .int .u64 a1_9, .int .i64 a1_10, .slice A1_11 l1_11.length c1_11, .slice A1_12 l1_12.length c1_12] 42))
  go_wp2_with (first
    | (go_at_call 10
       with_reducible refine (cn.out _).mono ?_
       rintro e v1 ⟨rfl, hbz⟩
       have HP1 := Aside0.mk (krow HP0.out hbz)
       have HA1 := Aside0.mk (krow HA0.out hbz)
       have HB1 := Aside0.mk (HB0.out.trans (hbz.mono HB0.out.size))
       clear hbz
       have q0_v1 : v1.cell? ⟨w.heap.size + 1, 0, none⟩ = some (.int .i64 a1_0) := blk_cell HA1.out 0)
    | (go_at_call 8
       with_reducible refine (ch.out _).mono ?_
       rintro e v2 ⟨rfl, hbz⟩
       have HP2 := Aside0.mk (krow HP1.out hbz)
       have HA2 := Aside0.mk (krow HA1.out hbz)
       have HB2 := Aside0.mk (HB1.out.trans (hbz.mono HB1.out.size))
       clear hbz)
    | fail)
  go_loopw [5] (fun v5 wr => ∃ (pos : Nat) (acc : ByteArray), pos ≤ hs.size ∧ v5 = .string acc ∧ wr.heap[v2.heap.size]? = some (.stringIter hs pos) ∧ Aside0 (lineGo (fun c => script_said.f k a0_0 a0_1 l0_2 l0_3 a1_0 a1_1 a1_2 a1_3 l1_4 a1_5 a1_6 a1_7 a1_8 a1_9 a1_10 l1_11 l1_12 c) (hs.data.toList.drop pos) acc = some r) ∧ Aside0 (wr.heap[w.heap.size]? = some (.cells #[.int .i64 a0_0, .int .i64 a0_1, .slice A0_2 l0_2.length c0_2, .slice A0_3 l0_3.length c0_3] 33)) ∧ Aside0 (wr.heap[w.heap.size + 1]? = some (.cells #[.int .i64 a1_0, .int .i64 a1_1, .int .i64 a1_2, .int .i64 a1_3, .slice A1_4 l1_4.length c1_4, .int .u32 a1_5, .int .u32 a1_6, .int .u32 a1_7, .int .u64 a1_8, .int .u64 a1_9, .int .i64 a1_10, .slice A1_11 l1_11.length c1_11, .slice A1_12 l1_12.length c1_12] 42)) ∧ Aside0 (Below w.heap.size w wr)) (fun _ wr => hs.size - wr.iterPos v2.heap.size)
  case atStart => exact ⟨0, nm, by omega, rfl, iter_new v2 hs, ⟨HF.out⟩, ⟨knew HP2.out⟩, ⟨knew HA2.out⟩, ⟨HB2.out.alloc HB2.out.size _⟩⟩
  case round =>
    obtain ⟨pos, acc, hpl, rfl, hit, HG, HP, HA, HB⟩ := hrel
    by_cases hp : pos < hs.size
    · have hnx := fun ty => Lib.run_next_ascii_at (P := Tryd.prog) wr v2.heap.size hs pos ty hit hp (ca.out pos hp)
      have HG1 := HG.out
      rw [rowOf_drop hs pos hp] at HG1
      simp only [lineGo] at HG1
      obtain ⟨x, HS, HG2⟩ := Option.bind_eq_some_iff.1 HG1
      by_cases hsz : x.size ≤ 1099511627776 ∧ acc.size ≤ 1099511627776
      · rw [if_pos hsz] at HG2
        have HSS := Aside0.mk HS
        have HGG := Aside0.mk HG2
        have f1 : 1 + x.size ≤ 9223372036854775807 := by omega
        have f2 : acc.size + (⟨#[32]⟩ ++ x : ByteArray).size ≤ 9223372036854775807 := by rw [ByteArray.size_append]; show _ + (1 + _) ≤ _; omega
        have HI := Aside0.mk (Lib.iterAt_heap wr v2.heap.size hs pos (pos + 1) hit)
        have HBI := Aside0.mk (Lib.below_iterAt HB.out (show w.heap.size ≤ v2.heap.size from HB2.out.size) hs (pos + 1))
        have hne1 : w.heap.size ≠ v2.heap.size := by have := (Array.getElem?_eq_some_iff.1 HP2.out).1; omega
        have hne2 : w.heap.size + 1 ≠ v2.heap.size := by have := (Array.getElem?_eq_some_iff.1 HA2.out).1; omega
        have HPI := Aside0.mk ((Lib.iterAt_other wr v2.heap.size w.heap.size hs (pos + 1) hne1).trans HP.out)
        have HAI := Aside0.mk ((Lib.iterAt_other wr v2.heap.size (w.heap.size + 1) hs (pos + 1) hne2).trans HA.out)
        generalize hs[pos] = c at *
        have HMM : Aside0 (hs.size - (pos + 1) < hs.size - wr.iterPos v2.heap.size) := ⟨by rw [iterPos_of hit]; omega⟩
        clear hsz HG HG1 HG2 HS hne1 hne2 HP HA HB HP0 HA0 HB0 HP1 HA1 HB1 HP2 HA2
        generalize wr.iterAt v2.heap.size hs (pos + 1) = wi at *
        have p0_wi : wi.cell? ⟨w.heap.size, 0, none⟩ = some (.int .i64 a0_0) := blk_cell HPI.out 0
        have p1_wi : wi.cell? ⟨w.heap.size, 1, none⟩ = some (.int .i64 a0_1) := blk_cell HPI.out 1
        have p2_wi : wi.cell? ⟨w.heap.size, 2, none⟩ = some (.slice A0_2 l0_2.length c0_2) := blk_cell HPI.out 2
        have p3_wi : wi.cell? ⟨w.heap.size, 3, none⟩ = some (.slice A0_3 l0_3.length c0_3) := blk_cell HPI.out 3
        have q0_wi : wi.cell? ⟨w.heap.size + 1, 0, none⟩ = some (.int .i64 a1_0) := blk_cell HAI.out 0
        have q1_wi : wi.cell? ⟨w.heap.size + 1, 1, none⟩ = some (.int .i64 a1_1) := blk_cell HAI.out 1
        have q2_wi : wi.cell? ⟨w.heap.size + 1, 2, none⟩ = some (.int .i64 a1_2) := blk_cell HAI.out 2
        have q3_wi : wi.cell? ⟨w.heap.size + 1, 3, none⟩ = some (.int .i64 a1_3) := blk_cell HAI.out 3
        have q4_wi : wi.cell? ⟨w.heap.size + 1, 4, none⟩ = some (.slice A1_4 l1_4.length c1_4) := blk_cell HAI.out 4
        have q5_wi : wi.cell? ⟨w.heap.size + 1, 5, none⟩ = some (.int .u32 a1_5) := blk_cell HAI.out 5
        have q6_wi : wi.cell? ⟨w.heap.size + 1, 6, none⟩ = some (.int .u32 a1_6) := blk_cell HAI.out 6
        have q7_wi : wi.cell? ⟨w.heap.size + 1, 7, none⟩ = some (.int .u32 a1_7) := blk_cell HAI.out 7
        have q8_wi : wi.cell? ⟨w.heap.size + 1, 8, none⟩ = some (.int .u64 a1_8) := blk_cell HAI.out 8
        have q9_wi : wi.cell? ⟨w.heap.size + 1, 9, none⟩ = some (.int .u64 a1_9) := blk_cell HAI.out 9
        have q10_wi : wi.cell? ⟨w.heap.size + 1, 10, none⟩ = some (.int .i64 a1_10) := blk_cell HAI.out 10
        have q11_wi : wi.cell? ⟨w.heap.size + 1, 11, none⟩ = some (.slice A1_11 l1_11.length c1_11) := blk_cell HAI.out 11
        have q12_wi : wi.cell? ⟨w.heap.size + 1, 12, none⟩ = some (.slice A1_12 l1_12.length c1_12) := blk_cell HAI.out 12
        go_wp2_with (first
          | (go_at_call 37
             refine (script_said.calls k a0_0 a0_1 A0_2 c0_2 l0_2 A0_3 c0_3 l0_3 a1_0 a1_1 a1_2 a1_3 A1_4 c1_4 l1_4 a1_5 a1_6 a1_7 a1_8 a1_9 a1_10 A1_11 c1_11 l1_11 A1_12 c1_12 l1_12 (c.toNat : Int) x _ (Kd.C_below HR0_2.out HBI.out) HC0_2.out (Kd.C_below HR0_3.out HBI.out) HC0_3.out (Kd.C_below HR1_4.out HBI.out) HC1_4.out (Kd.C_below HR1_11.out HBI.out) HC1_11.out (Kd.C_below HR1_12.out HBI.out) HC1_12.out HSS.out (tabs_at HT HBI.out)).mono ?_
             rintro e v3 ⟨rfl, hbz⟩
             have HI3 := Aside0.mk ((hbz.block v2.heap.size (Array.getElem?_eq_some_iff.1 HI.out).1).trans HI.out)
             have HP3 := Aside0.mk (krow HPI.out hbz)
             have HA3 := Aside0.mk (krow HAI.out hbz)
             have HB3 := Aside0.mk (HBI.out.trans (hbz.mono HBI.out.size))
             clear hbz)
          | fail)
        go_roundw
        case rel => exact ⟨pos + 1, _, by omega, rfl, HI3.out, HGG, HP3, HA3, HB3⟩
        case measure => rw [iterPos_of HI3.out]; exact HMM.out
      · rw [if_neg hsz] at HG2
        cases HG2
    · have hnx := fun ty => Lib.run_next_end_at (P := Tryd.prog) wr v2.heap.size hs pos ty hit hp
      obtain rfl : acc = r := by
        have := HG.out
        rw [List.drop_of_length_le (by rw [Array.length_toList]; show hs.size ≤ pos; omega)] at this
        exact Option.some.inj this
      clear HG
      go_wp2
      go_ret
      exact ⟨rfl, HB.out⟩
end Go.Proofs.YtpdinahdcedmkaaDoor.Ext
