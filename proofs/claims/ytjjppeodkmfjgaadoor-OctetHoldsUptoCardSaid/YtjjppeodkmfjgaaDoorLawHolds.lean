/- liverylaw01.OctetHolds (under way). -/
import Derived.Test.YtjjppeodkmfjgaaDoorJoins
import Derived.Test.YtjjppeodkmfjgaaDoorLawChoice
namespace Go.Proofs.YtjjppeodkmfjgaaDoor.Ext
set_option linter.unusedVariables false
open Go.RowKit Go.Proofs.YtjjppeodkmfjgaaDoorW.PrintWords Go.Proofs.YtjjppeodkmfjgaaDoorW.PrintLast Go.Proofs.YtjjppeodkmfjgaaDoorW.PrintMore

/-- a literal of three slices, or of one -/
theorem C_slices {w : World} {L : List (List Int)} {vs : List Value} {t : TypeId} (hl : vs.length = L.length) (hm : L.length ≤ 1000) (h : ∀ (j : Nat) (l : List Int), L[j]? = some l → ∃ A c, vs[j]? = some (.slice A l.length c) ∧ l.length ≤ c ∧ Kd.C (Kd.int .u8) w A l.length l) :
    Kd.C (Kd.slice 5 (Kd.int .u8)) (w.alloc (.cells vs.toArray t)) (some ⟨w.heap.size, 0, none⟩) L.length L := by
  refine ⟨rfl, by omega, fun _ => ⟨_, rfl, fun j l hj => ?_⟩⟩
  obtain ⟨A, c, hv, hc, hC⟩ := h j l hj
  refine ⟨[.slice A l.length c], rfl, ?_, ?_⟩
  · exact ⟨A, c, rfl, hc, Kd.C_below hC (below_new _ _)⟩
  · intro i u hu
    have hi : i = 0 := by
      cases i with
      | zero => rfl
      | succ i => simp at hu
    subst hi
    simp at hu
    subst hu
    have hh : (w.alloc (.cells vs.toArray t)).heap[w.heap.size]? = some (.cells vs.toArray t (0, 0)) := heap_alloc_new _ _
    have h1 := blk_cell hh j
    have e1 : (⟨w.heap.size, 0, none⟩ : Addr).add (j * (Kd.slice 5 (Kd.int .u8)).sz + 0) = ⟨w.heap.size, j, none⟩ := by
      show (⟨w.heap.size, 0, none⟩ : Addr).add (j * 1 + 0) = _
      simp [Addr.add]
      exact Eq.symm
    rw [e1, h1, List.getElem?_toArray, hv]
theorem R_below_int {w w' : World} {b e : Nat} {v : Value} {l : List Int} (h : Kd.R (Kd.int .u8) e w b (fun _ => True) v l) (hb : Below w.heap.size w w') : Kd.R (Kd.int .u8) e w' b (fun _ => True) v l :=
  Kd.R_of_own (row_below (Kd.own_of_R h) hb) (fun _ _ => trivial)
theorem C_of_R {w : World} {b e n c : Nat} {A : Option Addr} {l : List Int} (h : Kd.R (Kd.int .u8) e w b (fun _ => True) (.slice A n c) l) : Kd.C (Kd.int .u8) w A n l := by
  have h2 := Kd.R_reads' h
  rw [h2.1]
  exact h2.2.2
theorem eq_dec (a b : List Int) (ha : Bytes a) (hb : Bytes b) : P.liveryref01_Equal.f a b = some (decide (a = b)) := by
  unfold P.liveryref01_Equal.f
  congr 1
  by_cases h : a = b
  · subst h; simp
  · rw [decide_eq_false h]
    refine str_ne (fun e => h ?_)
    have e2 := congrArg (fun s : ByteArray => s.data.toList) e
    simp only [strOfNums_data] at e2
    have hlen : a.length = b.length := by simpa using congrArg List.length e2
    apply List.ext_getElem hlen
    intro i h1 h2
    have e3 := congrArg (fun l : List UInt8 => l[i]?) e2
    simp only [List.getElem?_map, List.getElem?_eq_getElem h1, List.getElem?_eq_getElem h2, Option.map_some, Option.some.injEq] at e3
    have hx := ha _ (List.getElem_mem h1)
    have hy := hb _ (List.getElem_mem h2)
    have e4 := congrArg UInt8.toNat e3
    simp only [UInt8.toNat_ofNat'] at e4
    omega
theorem own_lt_R {w : World} {b e : Nat} {v : Value} {l : List Int} (h : Kd.R (Kd.int .u8) e w b (fun _ => True) v l) (k : Nat) (hk : v.ownBlock = some k) : k < w.heap.size := by
  obtain ⟨inner, ho⟩ := Kd.R_own h
  exact own_lt ho k hk
theorem R_from {w : World} {b e : Nat} {v : Value} {l : List Int} (h : Kd.R (Kd.int .u8) e w b (fun _ => True) v l) : Kd.R (Kd.int .u8) e w b (fun k => b ≤ k) v l := Kd.R_mono (Kd.R_bound h) (fun k hk => hk.2.1)
theorem C_slice1 {w : World} {A : Option Addr} {c : Nat} {l : List Int} (hc : l.length ≤ c) (hC : Kd.C (Kd.int .u8) w A l.length l) :
    Kd.C (Kd.slice 5 (Kd.int .u8)) (w.alloc (.cells #[.slice A l.length c] 22)) (some ⟨w.heap.size, 0, none⟩) 1 [l] :=
  C_slices (L := [l]) (vs := [.slice A l.length c]) rfl (by simp) (fun j x hj => by
    cases j with
    | zero => simp at hj; subst hj; exact ⟨A, c, rfl, hc, hC⟩
    | succ j => simp at hj)
theorem C_slice3 {w : World} {A B D : Option Addr} {c c' c'' : Nat} {l l' l'' : List Int} (hc : l.length ≤ c) (hC : Kd.C (Kd.int .u8) w A l.length l) (hc' : l'.length ≤ c') (hC' : Kd.C (Kd.int .u8) w B l'.length l') (hc'' : l''.length ≤ c'') (hC'' : Kd.C (Kd.int .u8) w D l''.length l'') :
    Kd.C (Kd.slice 5 (Kd.int .u8)) (w.alloc (.cells #[.slice A l.length c, .slice B l'.length c', .slice D l''.length c''] 22)) (some ⟨w.heap.size, 0, none⟩) 3 [l, l', l''] :=
  C_slices (L := [l, l', l'']) (vs := [.slice A l.length c, .slice B l'.length c', .slice D l''.length c'']) rfl (by simp) (fun j x hj => by
    match j, hj with
    | 0, hj => simp at hj; subst hj; exact ⟨A, c, rfl, hc, hC⟩
    | 1, hj => simp at hj; subst hj; exact ⟨B, c', rfl, hc', hC'⟩
    | 2, hj => simp at hj; subst hj; exact ⟨D, c'', rfl, hc'', hC''⟩
    | j + 3, hj => simp at hj)
set_option maxHeartbeats 4000000 in
set_option maxRecDepth 100000 in
theorem law_Holds (A : Option Addr) (c : Nat) (a : List Int) (A' : Option Addr) (c' : Nat) (b : List Int) (first : Bool) (w : World) (hT : Lib.Utf8Tabs 0 1 w) (hC : Kd.C (Kd.int .u8) w A a.length a) (hc : a.length ≤ c) (ha : Bytes a) (hl : a.length ≤ 1048576) (hC' : Kd.C (Kd.int .u8) w A' b.length b) (hc' : b.length ≤ c') (hb : Bytes b) (hl' : b.length ≤ 1048576) :
    Calls Tryd.prog 9 #[.slice A a.length c, .slice A' b.length c', .bool first] w fun e w' => e = .returned (.bool true) ∧ Below w.heap.size w w' := by
  have CL := Lib.hid live_walk
  have HT := Lib.hid hT
  have HC := Aside0.mk hC
  have HC' := Aside0.mk hC'
  have k10 := (fun A c W h hc => P.liveryref01_Join.calls 2 A c [a] a W h hc (by simpa using rjoin_f [a] (by simp) (by simp; omega)))
  simp only [List.length_cons, List.length_nil, Nat.zero_add] at k10
  have k1 := Lib.hid k10
  clear k10
  have k20 := (fun A c W h hc => P.liveryref01_Join.calls 2 A c [b] b W h hc (by simpa using rjoin_f [b] (by simp) (by simp; omega)))
  simp only [List.length_cons, List.length_nil, Nat.zero_add] at k20
  have k2 := Lib.hid k20
  clear k20
  have k30 := (fun A c W h hc => P.octet_Join.calls 8 A c [a, b, a] (a ++ b ++ a) W h hc (by simpa using join_f [a, b, a] (by simp) (by simp; omega)))
  have k70 := (fun A c W h hc => P.liveryref01_Join.calls 4 A c [a, b, a] (a ++ b ++ a) W h hc (by simpa using rjoin_f [a, b, a] (by simp) (by simp; omega)))
  obtain ⟨J, hJ⟩ : ∃ J, a ++ b ++ a = J := ⟨_, rfl⟩
  rw [hJ] at k30 k70
  clear hJ
  simp only [List.length_cons, List.length_nil, Nat.zero_add, Nat.reduceAdd] at k70
  have k7 := Lib.hid k70
  clear k70
  simp only [List.length_cons, List.length_nil, Nat.zero_add, Nat.reduceAdd] at k30
  have k3 := Lib.hid k30
  clear k30
  have k4 := Lib.hid (fun A c A' c' (hc : a.length ≤ c) (hc' : b.length ≤ c') W h h' => P.octet_Choose.calls (a.length + 2) first A c a A' c' b (chooseS first a b).1 (chooseS first a b).2 W h hc h' hc' (choose_f first a b ha hb hl))
  have k5 := Lib.hid (fun A c A' c' (hc : a.length ≤ c) (hc' : b.length ≤ c') W h h' => P.octet_Xor.calls (a.length + 1) A c a A' c' b (xor2S a b).1 (xor2S a b).2 W h hc h' hc' (xor_f a b hl))
  have k6 := Lib.hid (fun A c A' c' (hc : a.length ≤ c) (hc' : b.length ≤ c') W h h' => P.octet_Same.calls (a.length + 1) A c a A' c' b _ W h hc h' hc' (same_f a b ha hb hl))
  have HCH := Aside0.mk (show (a.length = b.length → chooseS first a b = ((if first = true then a else b), 0) ∧ xor2S a b = (xorS a b, 0)) ∧ (¬ a.length = b.length → chooseS first a b = ([], 1) ∧ xor2S a b = ([], 1)) from ⟨fun h => ⟨by unfold chooseS; rw [if_pos h], xor2S_t h⟩, fun h => ⟨chooseS_n h, xor2S_n h⟩⟩)
  have HXR := Aside0.mk (show a.length = b.length → P.liveryref01_Xor.f (40 * a.length + 100) a b = some (xorS a b) from fun h => rxor_f a b ha hb h hl)
  generalize chooseS first a b = Z1 at *
  generalize xor2S a b = Z2 at *
  obtain ⟨X1, e1⟩ := Z1
  obtain ⟨X2, e2⟩ := Z2
  have HEQ := Aside0.mk (eq_dec a b ha hb)
  generalize decide (a = b) = sm at *
  clear hT hC hC' ha hb
  go_enter Tryd.func9, Tryd.ntmps9
  go_wp2_with (first
    | (go_at_call 42
       first
       | (with_reducible refine (k2.out _ 1 _ (C_slice1 hc' (Kd.C_below HC'.out HB1.out)) (by simp)).mono ?_
          rintro e v2 ⟨u2, rfl, hr2, hb2⟩
          obtain ⟨A2, c2, rfl, hl2, hC2⟩ := Kd.R_reads hr2
          have HL2 := Aside0.mk hl2
          have HC2 := Aside0.mk hC2
          have HR2 := Aside0.mk hr2
          have hb20 := Below.trans (below_new _ (.cells #[.slice A' b.length c'] 22)) (hb2.mono (by simp))
          have HR12 := Aside0.mk (R_below_int HR1.out hb20)
          have HC12 := Aside0.mk (Kd.C_below HC1.out hb20)
          have HB2 := Aside0.mk (HB1.out.trans (hb20.mono HB1.out.size))
          have HS12 := Aside0.mk hb20.size
          clear hr2 hb2 hb20 hl2 hC2)
       | (with_reducible refine (k1.out _ 1 _ (C_slice1 hc HC.out) (by simp)).mono ?_
          rintro e v1 ⟨u1, rfl, hr1, hb1⟩
          obtain ⟨A1, c1, rfl, hl1, hC1⟩ := Kd.R_reads hr1
          have HL1 := Aside0.mk hl1
          have HC1 := Aside0.mk hC1
          have HR1 := Aside0.mk hr1
          have HB1 := Aside0.mk (Below.trans (below_new w (.cells #[.slice A a.length c] 22)) (hb1.mono (by simp)))
          clear hr1 hb1 hl1 hC1))
    | (go_at_call 43
       with_reducible refine (k3.out _ 3 _ (C_slice3 HL1.out HC12.out HL2.out HC2.out HL1.out HC12.out) (by simp)).mono ?_
       rintro e v3 ⟨u3, rfl, hr3, hb3⟩
       obtain ⟨A3, c3, rfl, hl3, hC3⟩ := Kd.R_reads hr3
       have HL3 := Aside0.mk hl3
       have HR3 := Aside0.mk hr3
       have hb30 := Below.trans (below_new _ (.cells #[.slice A1 a.length c1, .slice A2 b.length c2, .slice A1 a.length c1] 22)) (hb3.mono (by simp))
       have HR13 := Aside0.mk (R_below_int HR12.out hb30)
       have HR23 := Aside0.mk (R_below_int HR2.out hb30)
       have HC13 := Aside0.mk (Kd.C_below HC12.out hb30)
       have HC23 := Aside0.mk (Kd.C_below HC2.out hb30)
       have HB3 := Aside0.mk (HB2.out.trans (hb30.mono HB2.out.size))
       have HS23 := Aside0.mk hb30.size
       clear hr3 hb3 hb30 hl3 hC3)
    | (go_at_call 39
       with_reducible refine (k4.out A1 c1 A2 c2 HL1.out HL2.out _ HC13.out HC23.out).mono ?_
       rintro e v4 ⟨u4, rfl, hr4, hb4⟩
       obtain ⟨A4, c4, rfl, hl4, hC4⟩ := Kd.R_reads hr4
       have HL4 := Aside0.mk hl4
       have HR4 := Aside0.mk hr4
       have HR34 := Aside0.mk (R_below_int HR3.out hb4)
       have HR14 := Aside0.mk (R_below_int HR13.out hb4)
       have HR24 := Aside0.mk (R_below_int HR23.out hb4)
       have HC14 := Aside0.mk (Kd.C_below HC13.out hb4)
       have HC24 := Aside0.mk (Kd.C_below HC23.out hb4)
       have HB4 := Aside0.mk (HB3.out.trans (hb4.mono HB3.out.size))
       have HS34 := Aside0.mk hb4.size
       clear hr4 hb4 hl4 hC4)
    | (go_at_call 40
       with_reducible refine (k5.out A1 c1 A2 c2 HL1.out HL2.out _ HC14.out HC24.out).mono ?_
       rintro e v5 ⟨u5, rfl, hr5, hb5⟩
       obtain ⟨A5, c5, rfl, hl5, hC5⟩ := Kd.R_reads hr5
       have HL5 := Aside0.mk hl5
       have HR5 := Aside0.mk hr5
       have HR45 := Aside0.mk (R_below_int HR4.out hb5)
       have HR35 := Aside0.mk (R_below_int HR34.out hb5)
       have HR15 := Aside0.mk (R_below_int HR14.out hb5)
       have HR25 := Aside0.mk (R_below_int HR24.out hb5)
       have HC15 := Aside0.mk (Kd.C_below HC14.out hb5)
       have HC25 := Aside0.mk (Kd.C_below HC24.out hb5)
       have HB5 := Aside0.mk (HB4.out.trans (hb5.mono HB4.out.size))
       clear hr5 hb5 hl5 hC5)
    | (go_at_call 41
       with_reducible refine (k6.out A1 c1 A2 c2 HL1.out HL2.out _ HC15.out HC25.out).mono ?_
       rintro e v6 ⟨rfl, hd6⟩
       have hb6 := hd6.below
       have HR56 := Aside0.mk (R_below_int HR5.out hb6)
       have HR46 := Aside0.mk (R_below_int HR45.out hb6)
       have HR36 := Aside0.mk (R_below_int HR35.out hb6)
       have HR16 := Aside0.mk (R_below_int HR15.out hb6)
       have HR26 := Aside0.mk (R_below_int HR25.out hb6)
       have HB6 := Aside0.mk (HB5.out.trans (hb6.mono HB5.out.size))
       clear hd6 hb6)
    | (go_at_call 13
       refine (CL.out _ (Utf8Tabs_below HT.out HB6.out)).mono ?_
       rintro e v7 ⟨rfl, hb7⟩
       have HR17 := Aside0.mk (R_below_int HR16.out hb7)
       have HR27 := Aside0.mk (R_below_int HR26.out hb7)
       have HR37 := Aside0.mk (R_below_int HR36.out hb7)
       have HR47 := Aside0.mk (R_below_int HR46.out hb7)
       have HR57 := Aside0.mk (R_below_int HR56.out hb7)
       have HB7 := Aside0.mk (HB6.out.trans (hb7.mono HB6.out.size))
       clear hb7)
    | (go_at_call 16
       first
       | (with_reducible refine (P.liveryref01_Equal.calls A2 c2 b A' c' b true _ (C_of_R HR28.out) HL2.out (Kd.C_below HC'.out HB8.out) hc' (eq_same b)).mono ?_
          rintro e v9 ⟨rfl, hd9⟩
          have hb9 := hd9.below
          have HR19 := Aside0.mk (R_below_int HR18.out hb9)
          have HR29 := Aside0.mk (R_below_int HR28.out hb9)
          have HR39 := Aside0.mk (R_below_int HR38.out hb9)
          have HR49 := Aside0.mk (R_below_int HR48.out hb9)
          have HR59 := Aside0.mk (R_below_int HR58.out hb9)
          have HB9 := Aside0.mk (HB8.out.trans (hb9.mono HB8.out.size))
          clear hd9 hb9)
       | (with_reducible refine (P.liveryref01_Equal.calls A1 c1 a A c a true _ (C_of_R HR17.out) HL1.out (Kd.C_below HC.out HB7.out) hc (eq_same a)).mono ?_
          rintro e v8 ⟨rfl, hd8⟩
          have hb8 := hd8.below
          have HR18 := Aside0.mk (R_below_int HR17.out hb8)
          have HR28 := Aside0.mk (R_below_int HR27.out hb8)
          have HR38 := Aside0.mk (R_below_int HR37.out hb8)
          have HR48 := Aside0.mk (R_below_int HR47.out hb8)
          have HR58 := Aside0.mk (R_below_int HR57.out hb8)
          have HB8 := Aside0.mk (HB7.out.trans (hb8.mono HB7.out.size))
          clear hd8 hb8))
    | fail)
  have HO1 := Aside0.mk (fun k => own_lt_R HR1.out k)
  have HO2 := Aside0.mk (fun k => own_lt_R HR2.out k)
  have KJ := Aside0.mk (Kd.C_kept_own (S := fun k => Value.ownBlock (.slice A1 a.length c1) = some k ∨ Value.ownBlock (.slice A2 b.length c2) = some k) (R_from HR39.out) (by
    have := HO1.out; have := HO2.out; have h12 := HS12.out
    rintro k hk (h | h)
    · have := HO1.out k h; simp at hk; omega
    · have := HO2.out k h; simp at hk; omega))
  have K4 := Aside0.mk (Kd.C_kept_own (S := fun k => Value.ownBlock (.slice A1 a.length c1) = some k ∨ Value.ownBlock (.slice A2 b.length c2) = some k) (R_from HR49.out) (by
    have h12 := HS12.out; have h23 := HS23.out
    rintro k hk (h | h)
    · have := HO1.out k h; omega
    · have := HO2.out k h; omega))
  have K5 := Aside0.mk (Kd.C_kept_own (S := fun k => Value.ownBlock (.slice A1 a.length c1) = some k ∨ Value.ownBlock (.slice A2 b.length c2) = some k) (R_from HR59.out) (by
    have h12 := HS12.out; have h23 := HS23.out; have h34 := HS34.out
    rintro k hk (h | h)
    · have := HO1.out k h; omega
    · have := HO2.out k h; omega))
  have KT := Aside0.mk (fun W' (hk : Kept v9 W' (fun k => Value.ownBlock (.slice A1 a.length c1) = some k)) => Kd.R_mono (Kd.R_kept (R_from HR29.out) hk (by
    rintro k hk h
    have := HO1.out k h; simp at hk; omega)) (ok' := fun _ => True) (fun _ _ => trivial))
  have HR1z := HR19
  clear HR39 HR49 HR59 HR19 HR29 HR12 HR13 HR14 HR15 HR16 HR17 HR18 HR23 HR24 HR25 HR26 HR27 HR28 HR34 HR35 HR36 HR37 HR38 HR45 HR46 HR47 HR48 HR56 HR57 HR58 HC13 HC14 HC15 HC23 HC24 HC25
  go_loopw [61] (fun v61 wr => ∃ (i : Nat) (l' : List Int), i ≤ a.length ∧ l'.length = a.length ∧ v61 = .int .i64 (i : Int) ∧ Aside0 (Kd.R (Kd.int .u8) 5 wr (w.alloc (.cells #[.slice A a.length c] 22)).heap.size (fun _ => True) (.slice A1 a.length c1) l') ∧ Aside0 (Kept v9 wr (fun k => Value.ownBlock (.slice A1 a.length c1) = some k)) ∧ Aside0 (Below w.heap.size w wr)) (fun v61 _ => a.length - (intOf v61).toNat)
  case atStart => exact ⟨0, a, by omega, rfl, rfl, HR1z, ⟨Kept.refl _ _⟩, HB9⟩
  case round =>
    obtain ⟨i, l', hi, hll, rfl, HO, HK, HB⟩ := hrel
    by_cases hlt : i < a.length
    · obtain ⟨go, co, eo, gb, gl, cl, HG⟩ := Kd.R_form HO.out (by omega)
      rw [hll] at eo
      have hi0 : (0 : Int) ≤ (i : Int) := by omega
      have hi1 : (i : Int) < (a.length : Int) := by omega
      cases eo
      obtain ⟨hx, hf⟩ := Kd.R_celln 0 HO.out (i : Int) hi0 hi1
      have hp := (Kd.R_putg HO.out (i : Int) (Go.bits .xor .u8 (rdOf 0 l' (i : Int)) 255)).1
      rw [Int.toNat_natCast] at hx hf hp
      have hgb : w.heap.size ≤ go := by simp at gb; omega
      have HP := Aside0.mk hp
      have HQ := Aside0.mk (below_set HB.out hgb (v := .int .u8 (Go.bits .xor .u8 (rdOf 0 l' (i : Int)) 255)) (j := i))
      have HKK := Aside0.mk (Kept.setCell HK.out (p := ⟨go, i, none⟩) (.inl rfl) (.int .u8 (Go.bits .xor .u8 (rdOf 0 l' (i : Int)) 255)))
      have HLL := Aside0.mk hll
      clear HG gl hp hll
      go_wp2
      go_roundw
      case rel => exact ⟨i + 1, _, by omega, by rw [List.length_set]; exact HLL.out, by go_num, HP, HKK, HQ⟩
      case measure => simp [intOf]; omega
    · obtain rfl : i = a.length := by omega
      have HR2z := Aside0.mk (KT.out _ HK.out)
      clear HO HR1z KT
      go_wp2
      have HKw := HK
      have HBw := HB
      clear HK HB
      go_loopw [73] (fun v73 wq => ∃ (i : Nat) (l' : List Int), i ≤ b.length ∧ l'.length = b.length ∧ v73 = .int .i64 (i : Int) ∧ Aside0 (Kd.R (Kd.int .u8) 5 wq (v1.alloc (.cells #[.slice A' b.length c'] 22)).heap.size (fun _ => True) (.slice A2 b.length c2) l') ∧ Aside0 (Kept v9 wq (fun k => Value.ownBlock (.slice A1 a.length c1) = some k ∨ Value.ownBlock (.slice A2 b.length c2) = some k)) ∧ Aside0 (Below w.heap.size w wq)) (fun v73 _ => b.length - (intOf v73).toNat)
      case atStart => exact ⟨0, b, by omega, rfl, rfl, HR2z, ⟨HKw.out.mono (fun k hk => .inl hk)⟩, HBw⟩
      case round =>
        clear HR2z HKw HBw
        obtain ⟨i, l', hi, hll, rfl, HO, HK, HB⟩ := hrel
        by_cases hlt : i < b.length
        · obtain ⟨go, co, eo, gb, gl, cl, HG⟩ := Kd.R_form HO.out (by omega)
          rw [hll] at eo
          have hi0 : (0 : Int) ≤ (i : Int) := by omega
          have hi1 : (i : Int) < (b.length : Int) := by omega
          cases eo
          obtain ⟨hx, hf⟩ := Kd.R_celln 0 HO.out (i : Int) hi0 hi1
          have hp := (Kd.R_putg HO.out (i : Int) (Go.bits .xor .u8 (rdOf 0 l' (i : Int)) 255)).1
          rw [Int.toNat_natCast] at hx hf hp
          have hgb : w.heap.size ≤ go := by have h1 := HB1.out.size; simp at gb; omega
          have HP := Aside0.mk hp
          have HQ := Aside0.mk (below_set HB.out hgb (v := .int .u8 (Go.bits .xor .u8 (rdOf 0 l' (i : Int)) 255)) (j := i))
          have HKK := Aside0.mk (Kept.setCell HK.out (p := ⟨go, i, none⟩) (.inl (.inr rfl)) (.int .u8 (Go.bits .xor .u8 (rdOf 0 l' (i : Int)) 255)))
          have HLL := Aside0.mk hll
          clear HG gl hp hll
          go_wp2
          go_roundw
          case rel => exact ⟨i + 1, _, by omega, by rw [List.length_set]; exact HLL.out, by go_num, HP, HKK, HQ⟩
          case measure => simp [intOf]; omega
        · obtain rfl : i = b.length := by omega
          have CJ := Aside0.mk (KJ.out _ HK.out)
          have C4 := Aside0.mk (K4.out _ HK.out)
          have C5 := Aside0.mk (K5.out _ HK.out)
          clear HO HK KJ K4 K5
          go_wp2_with (first
            | (go_at_call 42
               with_reducible refine (k7.out _ 3 _ (C_slice3 hc (Kd.C_below HC.out HB.out) hc' (Kd.C_below HC'.out HB.out) hc (Kd.C_below HC.out HB.out)) (by simp)).mono ?_
               rintro e va ⟨ua, rfl, hra, hba⟩
               obtain ⟨Aa, ca, rfl, hla, hCa⟩ := Kd.R_reads hra
               have hba0 := Below.trans (below_new _ (.cells #[.slice A a.length c, .slice A' b.length c', .slice A a.length c] 22)) (hba.mono (by simp))
               have HLa := Aside0.mk hla
               have HCa := Aside0.mk hCa
               have CJa := Aside0.mk (Kd.C_below CJ.out hba0)
               have C4a := Aside0.mk (Kd.C_below C4.out hba0)
               have C5a := Aside0.mk (Kd.C_below C5.out hba0)
               have HBa := Aside0.mk (HB.out.trans (hba0.mono HB.out.size))
               clear hra hba hba0 hla hCa)
            | fail)
          by_cases hlen : a.length = b.length
          · have hz := HCH.out.1 hlen
            have HXE := Aside0.mk (HXR.out hlen)
            have HLEN := Aside0.mk hlen
            have t1 : ((a.length : Int) == (b.length : Int)) = true := beq_iff_eq.2 (by omega)
            have t2 : ((a.length : Int) != (b.length : Int)) = false := by simp [bne, t1]
            clear HCH HXR
            cases first
            · obtain ⟨hz1, hz2⟩ := Prod.mk.inj hz.1
              obtain ⟨hz3, hz4⟩ := Prod.mk.inj hz.2
              have hz5 : b = X1 := hz1.symm
              subst hz5
              subst hz2
              subst hz3
              subst hz4
              clear hz hz1
              clear hlen
              go_wp2_with (first
              | (go_at_call 16
                 first
                 | (with_reducible refine (P.liveryref01_Equal.calls A5 c5 (xorS a b) Ar cr (xorS a b) true _ C5e.out HL5.out HCr.out HLr.out (eq_same _)).mono ?_
                    rintro e vf ⟨rfl, hd⟩
                    have HBf := Aside0.mk (below_drawn HBr.out hd)
                    clear hd)
                 | (with_reducible refine (P.liveryref01_Equal.calls A4 c4 b A' c' b true _ C4d.out HL4.out (Kd.C_below HC'.out HBd.out) hc' (eq_same _)).mono ?_
                    rintro e ve ⟨rfl, hd⟩
                    have C5e := Aside0.mk (C_drawn C5d.out hd)
                    have HBe := Aside0.mk (below_drawn HBd.out hd)
                    clear hd)
                 | (with_reducible refine (P.liveryref01_Equal.calls A c a A' c' b sm _ (Kd.C_below HC.out HBc.out) hc (Kd.C_below HC'.out HBc.out) hc' HEQ.out).mono ?_
                    rintro e vd ⟨rfl, hd⟩
                    have C4d := Aside0.mk (C_drawn C4c.out hd)
                    have C5d := Aside0.mk (C_drawn C5c.out hd)
                    have HBd := Aside0.mk (below_drawn HBc.out hd)
                    clear hd)
                 | (with_reducible refine (P.liveryref01_Equal.calls A3 c3 J Aa ca J true _ CJa.out HL3.out HCa.out HLa.out (eq_same J)).mono ?_
                    rintro e vc ⟨rfl, hd⟩
                    have C4c := Aside0.mk (C_drawn C4a.out hd)
                    have C5c := Aside0.mk (C_drawn C5a.out hd)
                    have HBc := Aside0.mk (below_drawn HBa.out hd)
                    clear hd))
              | (go_at_call 44
                 refine (P.liveryref01_Xor.calls (40 * a.length + 100) A c a A' c' b (xorS a b) _ (Kd.C_below HC.out HBe.out) hc (Kd.C_below HC'.out HBe.out) hc' HXE.out).mono ?_
                 rintro e vx ⟨ux, rfl, hrx, hbx⟩
                 obtain ⟨Ar, cr, rfl, hlr, hCr⟩ := Kd.R_reads hrx
                 have HLr := Aside0.mk hlr
                 have HCr := Aside0.mk hCr
                 have C5e := Aside0.mk (Kd.C_below C5e.out hbx)
                 have HBr := Aside0.mk (HBe.out.trans (hbx.mono HBe.out.size))
                 clear hrx hbx hlr hCr)
              | fail)
              go_ret
              exact ⟨rfl, HBf.out⟩
            · obtain ⟨hz1, hz2⟩ := Prod.mk.inj hz.1
              obtain ⟨hz3, hz4⟩ := Prod.mk.inj hz.2
              have hz5 : a = X1 := hz1.symm
              subst hz5
              subst hz2
              subst hz3
              subst hz4
              clear hz hz1
              clear hlen
              go_wp2_with (first
              | (go_at_call 16
                 first
                 | (with_reducible refine (P.liveryref01_Equal.calls A5 c5 (xorS a b) Ar cr (xorS a b) true _ C5e.out HL5.out HCr.out HLr.out (eq_same _)).mono ?_
                    rintro e vf ⟨rfl, hd⟩
                    have HBf := Aside0.mk (below_drawn HBr.out hd)
                    clear hd)
                 | (with_reducible refine (P.liveryref01_Equal.calls A4 c4 a A c a true _ C4d.out HL4.out (Kd.C_below HC.out HBd.out) hc (eq_same _)).mono ?_
                    rintro e ve ⟨rfl, hd⟩
                    have C5e := Aside0.mk (C_drawn C5d.out hd)
                    have HBe := Aside0.mk (below_drawn HBd.out hd)
                    clear hd)
                 | (with_reducible refine (P.liveryref01_Equal.calls A c a A' c' b sm _ (Kd.C_below HC.out HBc.out) hc (Kd.C_below HC'.out HBc.out) hc' HEQ.out).mono ?_
                    rintro e vd ⟨rfl, hd⟩
                    have C4d := Aside0.mk (C_drawn C4c.out hd)
                    have C5d := Aside0.mk (C_drawn C5c.out hd)
                    have HBd := Aside0.mk (below_drawn HBc.out hd)
                    clear hd)
                 | (with_reducible refine (P.liveryref01_Equal.calls A3 c3 J Aa ca J true _ CJa.out HL3.out HCa.out HLa.out (eq_same J)).mono ?_
                    rintro e vc ⟨rfl, hd⟩
                    have C4c := Aside0.mk (C_drawn C4a.out hd)
                    have C5c := Aside0.mk (C_drawn C5a.out hd)
                    have HBc := Aside0.mk (below_drawn HBa.out hd)
                    clear hd))
              | (go_at_call 44
                 refine (P.liveryref01_Xor.calls (40 * a.length + 100) A c a A' c' b (xorS a b) _ (Kd.C_below HC.out HBe.out) hc (Kd.C_below HC'.out HBe.out) hc' HXE.out).mono ?_
                 rintro e vx ⟨ux, rfl, hrx, hbx⟩
                 obtain ⟨Ar, cr, rfl, hlr, hCr⟩ := Kd.R_reads hrx
                 have HLr := Aside0.mk hlr
                 have HCr := Aside0.mk hCr
                 have C5e := Aside0.mk (Kd.C_below C5e.out hbx)
                 have HBr := Aside0.mk (HBe.out.trans (hbx.mono HBe.out.size))
                 clear hrx hbx hlr hCr)
              | fail)
              go_ret
              exact ⟨rfl, HBf.out⟩
          · obtain ⟨h1, h2⟩ := HCH.out.2 hlen
            obtain ⟨rfl, rfl⟩ := Prod.mk.inj h1
            obtain ⟨rfl, rfl⟩ := Prod.mk.inj h2
            have t2 : ((a.length : Int) != (b.length : Int)) = true := bne_iff_ne.2 (by omega)
            have t3 : ¬ (a.length : Int) = (b.length : Int) := by omega
            clear HCH HXR h1 h2
            go_wp2_with (first
            | (go_at_call 16
               first
               | (with_reducible refine (P.liveryref01_Equal.calls A5 c5 (xorS a b) Ar cr (xorS a b) true _ C5e.out HL5.out HCr.out HLr.out (eq_same _)).mono ?_
                  rintro e vf ⟨rfl, hd⟩
                  have HBf := Aside0.mk (below_drawn HBr.out hd)
                  clear hd)
               | (with_reducible refine (P.liveryref01_Equal.calls A4 c4 b A' c' b true _ C4d.out HL4.out (Kd.C_below HC'.out HBd.out) hc' (eq_same _)).mono ?_
                  rintro e ve ⟨rfl, hd⟩
                  have C5e := Aside0.mk (C_drawn C5d.out hd)
                  have HBe := Aside0.mk (below_drawn HBd.out hd)
                  clear hd)
               | (with_reducible refine (P.liveryref01_Equal.calls A c a A' c' b sm _ (Kd.C_below HC.out HBc.out) hc (Kd.C_below HC'.out HBc.out) hc' HEQ.out).mono ?_
                  rintro e vd ⟨rfl, hd⟩
                  have C4d := Aside0.mk (C_drawn C4c.out hd)
                  have C5d := Aside0.mk (C_drawn C5c.out hd)
                  have HBd := Aside0.mk (below_drawn HBc.out hd)
                  clear hd)
               | (with_reducible refine (P.liveryref01_Equal.calls A3 c3 J Aa ca J true _ CJa.out HL3.out HCa.out HLa.out (eq_same J)).mono ?_
                  rintro e vc ⟨rfl, hd⟩
                  have C4c := Aside0.mk (C_drawn C4a.out hd)
                  have C5c := Aside0.mk (C_drawn C5a.out hd)
                  have HBc := Aside0.mk (below_drawn HBa.out hd)
                  clear hd))
            | fail)
            go_ret
            exact ⟨rfl, HBd.out⟩
end Go.Proofs.YtjjppeodkmfjgaaDoor.Ext
