/- script.reader: a reader of words; next, number, name. -/
import Derived.Test.YtpdinahdcedmkaaDoorSExt
import Derived.Test.YtpdinahdcedmkaaDoorSWords
import Derived.Test.YtpdinahdcedmkaaDoorDecs
namespace Go.Proofs.YtpdinahdcedmkaaDoor.Ext
set_option linter.unusedVariables false
set_option linter.unusedSimpArgs false
open Go.RowKit Go.Proofs.YtpdinahdcedmkaaDoorW.PrintWords Go.Proofs.YtpdinahdcedmkaaDoorW.PrintLast Go.Proofs.YtpdinahdcedmkaaDoorW.PrintMore

/-- strings that lie in a block of strings -/
structure StrAt (w : World) (A : Option Addr) (l : List ByteArray) : Prop where mk ::
  (out : 0 < l.length → ∃ b i cells fr, A = some ⟨b, i, none⟩ ∧ w.heap[b]? = some (.cells cells 9 fr) ∧ ∀ j s, l[j]? = some s → w.cell? ⟨b, i + j, none⟩ = some (.string s))
theorem StrAt.move {w w' : World} {A : Option Addr} {l : List ByteArray} {g : Nat} {o : Obj} (h : StrAt w A l) (hg : w.grownBy w' (some g)) (ho : w.heap[g]? = some o) (hne : ∀ cells fr, o ≠ .cells cells 9 fr) : StrAt w' A l := by
  refine ⟨fun hl => ?_⟩
  obtain ⟨b, i, cells, fr, h1, h2, h3⟩ := h.out hl
  have hb : b ≠ g := by
    rintro rfl
    rw [ho] at h2
    exact hne _ _ (Option.some.inj h2)
  have hk := hg.block b (Array.getElem?_eq_some_iff.1 h2).1 (by simpa using hb)
  exact ⟨b, i, cells, fr, h1, hk.trans h2, fun j s hj => hg.cell (h3 j s hj) (by simpa using hb)⟩
theorem StrAt.below {w w' : World} {A : Option Addr} {l : List ByteArray} (h : StrAt w A l) (hb : Below w.heap.size w w') : StrAt w' A l := by
  refine ⟨fun hl => ?_⟩
  obtain ⟨b, i, cells, fr, h1, h2, h3⟩ := h.out hl
  exact ⟨b, i, cells, fr, h1, krow h2 hb, fun j s hj => (hb.cell (p := ⟨b, i + j, none⟩) (Array.getElem?_eq_some_iff.1 h2).1).trans (h3 j s hj)⟩
theorem StrAt.tail {w : World} {b i : Nat} {s : ByteArray} {t : List ByteArray} (h : StrAt w (some ⟨b, i, none⟩) (s :: t)) : StrAt w (some ⟨b, i + 1, none⟩) t := by
  refine ⟨fun hl => ?_⟩
  obtain ⟨b', i', cells, fr, h1, h2, h3⟩ := h.out (by simp)
  simp only [Option.some.injEq, Addr.mk.injEq, and_true] at h1
  obtain ⟨rfl, rfl⟩ := h1
  refine ⟨b, i + 1, cells, fr, rfl, h2, fun j s' hj => ?_⟩
  have := h3 (j + 1) s' (by simpa using hj)
  rwa [show i + 1 + j = i + (j + 1) by omega]
/-- a reader with what is left of its words -/
structure Rdr (w : World) (g : Nat) (p0 p1 p2 p3 : Value) (l : List ByteArray) : Prop where mk ::
  (out : ∃ A c, w.heap[g]? = some (.cells #[p0, p1, p2, p3, .slice A l.length c] 66) ∧ l.length ≤ c ∧ l.length ≤ 1073741824 ∧ StrAt w A l)
theorem Rdr.move {w w' : World} {g ab : Nat} {p0 p1 p2 p3 : Value} {l : List ByteArray} {o : Obj} (h : Rdr w g p0 p1 p2 p3 l) (hg : w.grownBy w' (some ab)) (ho : w.heap[ab]? = some o) (hne : ∀ cells fr, o ≠ .cells cells 9 fr) (hab : ab ≠ g) : Rdr w' g p0 p1 p2 p3 l := by
  obtain ⟨A, c, h1, h2, h3, h4⟩ := h.out
  exact ⟨A, c, (hg.block g (Array.getElem?_eq_some_iff.1 h1).1 (by simpa using Ne.symm hab)).trans h1, h2, h3, h4.move hg ho hne⟩
theorem Rdr.below {w w' : World} {g : Nat} {p0 p1 p2 p3 : Value} {l : List ByteArray} (h : Rdr w g p0 p1 p2 p3 l) (hb : Below w.heap.size w w') : Rdr w' g p0 p1 p2 p3 l := by
  obtain ⟨A, c, h1, h2, h3, h4⟩ := h.out
  exact ⟨A, c, krow h1 hb, h2, h3, h4.below hb⟩
theorem setCell_grown (w : World) (b i : Nat) (v : Value) : w.grownBy (w.setCell ⟨b, i, none⟩ v) (some b) :=
  ⟨rfl, rfl, rfl, by simp [World.setCell], fun k _ hk => Below.heap_setCell w ⟨b, i, none⟩ v k (by simpa using hk)⟩

set_option maxHeartbeats 2000000 in
set_option maxRecDepth 100000 in
theorem next_nil (w : World) (g : Nat) (p0 p1 p2 p3 : Value) (A : Option Addr) (c : Nat) (h : w.heap[g]? = some (.cells #[p0, p1, p2, p3, .slice A 0 c] 66)) :
    Calls Tryd.prog 41 #[.pointer (some ⟨g, 0, none⟩)] w fun e w' => e = .returned (.string ⟨#[]⟩) ∧ w = w' := by
  have q4 : w.cell? ⟨g, 4, none⟩ = some (.slice A 0 c) := blk_cell h 4
  clear h
  go_enter Tryd.func41, Tryd.ntmps41
  go_wp2
  go_ret
  exact ⟨rfl, rfl⟩
set_option maxHeartbeats 2000000 in
set_option maxRecDepth 100000 in
theorem next_cons (w : World) (g : Nat) (p0 p1 p2 p3 : Value) (b i n c : Nat) (s : ByteArray) (h : w.heap[g]? = some (.cells #[p0, p1, p2, p3, .slice (some ⟨b, i, none⟩) (n + 1) c] 66)) (hc : n + 1 ≤ c) (hn : n ≤ 1073741824) (hx : w.cell? ⟨b, i, none⟩ = some (.string s)) :
    Calls Tryd.prog 41 #[.pointer (some ⟨g, 0, none⟩)] w fun e w' => e = .returned (.string s) ∧ w' = w.setCell ⟨g, 4, none⟩ (.slice (some (if c = 1 then ⟨b, i, none⟩ else ⟨b, i + 1, none⟩)) n (c - 1)) := by
  have q4 : w.cell? ⟨g, 4, none⟩ = some (.slice (some ⟨b, i, none⟩) (n + 1) c) := blk_cell h 4
  have f4 : w.frozen? ⟨g, 4, none⟩ = false := blk_free h 4
  have t0 : (((n : Int) + 1) == 0) = false := beq_eq_false_iff_ne.2 (by omega)
  clear h
  go_enter Tryd.func41, Tryd.ntmps41
  go_wp2
  all_goals
    go_ret
    exact ⟨rfl, rfl⟩
theorem next_any (w : World) (g : Nat) (p0 p1 p2 p3 : Value) (l : List ByteArray) (h : Rdr w g p0 p1 p2 p3 l) :
    Calls Tryd.prog 41 #[.pointer (some ⟨g, 0, none⟩)] w fun e w' => e = .returned (.string (l.headD ⟨#[]⟩)) ∧ (Rdr w' g p0 p1 p2 p3 l.tail ∧ w.grownBy w' (some g)) := by
  obtain ⟨A, c, h1, h2, h3, h4⟩ := h.out
  cases l with
  | nil =>
    refine (next_nil w g p0 p1 p2 p3 A c h1).mono ?_
    rintro e w' ⟨rfl, rfl⟩
    exact ⟨rfl, h, World.grownBy.refl _ _⟩
  | cons s t =>
    obtain ⟨b, i, cells, fr, rfl, hb, hx⟩ := h4.out (by simp)
    have hx0 := hx 0 s rfl
    refine (next_cons w g p0 p1 p2 p3 b i t.length c s h1 h2 (by simp at h3; omega) hx0).mono ?_
    rintro e w' ⟨rfl, rfl⟩
    have hg := setCell_grown w g 4 (.slice (some (if c = 1 then ⟨b, i, none⟩ else ⟨b, i + 1, none⟩)) t.length (c - 1))
    refine ⟨rfl, ?_, hg⟩
    have hrow := blk_set h1 4 (.slice (some (if c = 1 then ⟨b, i, none⟩ else ⟨b, i + 1, none⟩)) t.length (c - 1))
    refine ⟨_, _, hrow, by simp at h2; simp; omega, by simp at h3; simp; omega, ?_⟩
    by_cases hc : c = 1
    · have : t = [] := by
        have : t.length = 0 := by simp at h2; omega
        exact List.length_eq_zero_iff.1 this
      subst this
      exact ⟨fun hl => absurd hl (by simp)⟩
    · rw [if_neg hc] at hg ⊢
      exact (h4.tail).move hg h1 (fun cells fr he => by cases he)
def numOf (s : ByteArray) : Int := (numS s).1
set_option maxHeartbeats 2000000 in
set_option maxRecDepth 100000 in
theorem number_any (w : World) (g : Nat) (p0 p1 p2 p3 : Value) (l : List ByteArray) (h : Rdr w g p0 p1 p2 p3 l) (hz : (l.headD ⟨#[]⟩).size ≤ 140737488351232) :
    Calls Tryd.prog 39 #[.pointer (some ⟨g, 0, none⟩)] w fun e w' => e = .returned (.int .u64 (numOf (l.headD ⟨#[]⟩))) ∧ (Rdr w' g p0 p1 p2 p3 l.tail ∧ w.grownBy w' (some g)) := by
  have cn := Lib.hid (next_any w g p0 p1 p2 p3 l h)
  have cm := Lib.hid (fun w => octet_Number.calls (l.headD ⟨#[]⟩) (numS (l.headD ⟨#[]⟩)).1 (numS (l.headD ⟨#[]⟩)).2 w (by unfold octet_Number.f; rw [if_pos hz]))
  unfold numOf
  generalize (numS (l.headD ⟨#[]⟩)).1 = m1 at *
  generalize (numS (l.headD ⟨#[]⟩)).2 = m2 at *
  generalize l.headD ⟨#[]⟩ = s at *
  clear h hz
  go_enter Tryd.func39, Tryd.ntmps39
  go_wp2_with (first
    | (go_at_call 41
       refine cn.out.mono ?_
       rintro e v ⟨rfl, hr1, hg1⟩
       have HR1 := Aside0.mk hr1
       have HG1 := Aside0.mk hg1
       clear hr1 hg1)
    | (go_at_call 59
       refine (cm.out _).mono ?_
       rintro e v2 ⟨rfl, hb⟩
       have HR2 := Aside0.mk (HR1.out.below hb)
       have HG2 := Aside0.mk (HG1.out.trans (grown_of_below hb (some g)))
       clear hb)
    | fail)
  go_ret
  exact ⟨rfl, HR2.out, HG2.out⟩
/-- the number of the name that is so in quotes; -1: there is none -/
def nameIx (l : List ByteArray) (q : ByteArray) : Nat := l.findIdx (fun s => decide (quoteS s = q))
def nameI (l : List ByteArray) (q : ByteArray) : Int := if nameIx l q < l.length then (nameIx l q : Int) else -1
theorem nameIx_hit (l : List ByteArray) (q : ByteArray) (i : Nat) (hi : i < l.length) (h : quoteS (l.getD i ByteArray.empty) = q) (hn : ∀ j < i, quoteS (l.getD j ByteArray.empty) ≠ q) : nameIx l q = i := by
  unfold nameIx
  rw [List.findIdx_eq hi]
  refine ⟨by rw [List.getD_eq_getElem?_getD, List.getElem?_eq_getElem hi] at h; simpa using h, fun j hj => ?_⟩
  have := hn j hj
  rw [List.getD_eq_getElem?_getD, List.getElem?_eq_getElem (show j < l.length by omega)] at this
  simpa using this
theorem nameIx_none (l : List ByteArray) (q : ByteArray) (hn : ∀ j < l.length, quoteS (l.getD j ByteArray.empty) ≠ q) : ¬ nameIx l q < l.length := by
  intro h
  unfold nameIx at h
  have h1 := List.findIdx_getElem (w := h)
  have h2 := hn _ h
  rw [List.getD_eq_getElem?_getD, List.getElem?_eq_getElem h] at h2
  exact h2 (by simpa using h1)
set_option maxHeartbeats 2000000 in
set_option maxRecDepth 100000 in
theorem name_clo (s q x : ByteArray) (w : World) (b : Nat) (R : Bool) (hx : w.cell? ⟨b, 0, none⟩ = some (.string q)) (hq : quoteS s = x) (hR : (x.toList == q.toList) = R) (hz : s.size ≤ 17592186044416) (hT : Aside0 (Lib.Utf8Tabs 0 1 w)) :
    Calls Tryd.prog 58 #[.string s, .pointer (some ⟨b, 0, none⟩)] w fun e w' => e = .returned (.bool R) ∧ Below w.heap.size w w' := by
  have cq := Lib.hid (fun w hT => octet_Quote.calls s x w (by unfold octet_Quote.f; rw [if_pos hz, hq]) hT)
  have hlt : b < w.heap.size := World.block_lt_of_cell? w _ hx
  clear hq
  go_enter Tryd.func58, Tryd.ntmps58
  go_wp2
  refine wp_region_held_drew (S := (fun W => W.cell? ⟨b, 0, none⟩ = some (.string q) ∧ Aside0 (Below w.heap.size w W))) (by kernel_rfl) ?_ (fun hHeld => ?_)
  · try dsimp only
    exact ⟨hx, ⟨(Below.refl _ _).drew⟩⟩
  refine wpAnyH_take (i := 0) (v := ?_) rfl (by kernel_rfl) (by kernel_rfl) (by kernel_rfl) (fun _ _ _ h => h) (Or.inl ⟨by rfl, ?_⟩) (by assumption) ?_
  rotate_left
  · intro w hSw
    try dsimp only at hSw
    go_simp
    try with_reducible rfl
  try simp only [Act.put, List.setIfInBounds_toArray, List.set_cons_zero, List.set_cons_succ, List.getElem_toArray, List.getElem_cons_succ, List.getElem_cons_zero]
  refine wpAnyH_take (i := 2) (v := ?_) rfl (by kernel_rfl) (by kernel_rfl) (by kernel_rfl) (fun _ _ _ h => h) (Or.inl ⟨by rfl, ?_⟩) (by assumption) ?_
  rotate_left
  · intro w hSw
    try dsimp only at hSw
    go_simp
    try with_reducible rfl
  try simp only [Act.put, List.setIfInBounds_toArray, List.set_cons_zero, List.set_cons_succ, List.getElem_toArray, List.getElem_cons_succ, List.getElem_cons_zero]
  refine wpAnyH_ready (rs := [1]) (by kernel_rfl) (by simp) ?_
  refine AllReadyH.cons rfl (fun K hK => ?_) AllReadyH.nil
  go_simp
  go_at_call 51
  with_reducible refine (cq.out _ (tabs_at hT hHeld.2.out)).mono ?_
  rintro e v2 ⟨rfl, hbz⟩
  try go_wp2_with fail
  refine hK.out _ _ ?_ ?_
  · try dsimp only
    exact ⟨(hbz.cell (p := ⟨b, 0, none⟩) (by have := hHeld.2.out.size; simp; omega)).trans hHeld.1, ⟨hHeld.2.out.trans (hbz.mono hHeld.2.out.size)⟩⟩
  clear hHeld hbz hK K
  intro hHeld
  try simp only [Act.put, List.setIfInBounds_toArray, List.set_cons_zero, List.set_cons_succ, List.getElem_toArray, List.getElem_cons_succ, List.getElem_cons_zero]
  refine wpAnyH_take (i := 3) (v := ?_) rfl (by kernel_rfl) (by kernel_rfl) (by kernel_rfl) (fun _ _ _ h => h) (Or.inl ⟨by rfl, ?_⟩) (by assumption) ?_
  rotate_left
  · intro w hSw
    try dsimp only at hSw
    go_simp
    try with_reducible rfl
  try simp only [Act.put, List.setIfInBounds_toArray, List.set_cons_zero, List.set_cons_succ, List.getElem_toArray, List.getElem_cons_succ, List.getElem_cons_zero]
  refine wpAnyH_take (i := 4) (v := ?_) rfl (by kernel_rfl) (by kernel_rfl) (by kernel_rfl) (fun _ _ _ h => h) (Or.inl ⟨by rfl, ?_⟩) (by assumption) ?_
  rotate_left
  · intro w hSw
    try dsimp only at hSw
    go_simp
    try with_reducible rfl
  try simp only [Act.put, List.setIfInBounds_toArray, List.set_cons_zero, List.set_cons_succ, List.getElem_toArray, List.getElem_cons_succ, List.getElem_cons_zero]
  refine wpAnyH_done (by kernel_rfl) ?_ _
  go_wp2
  go_ret
  exact ⟨rfl, hHeld.2.out⟩
set_option maxHeartbeats 4000000 in
set_option maxRecDepth 100000 in
theorem name_ix (A : Option Addr) (c : Nat) (l : List ByteArray) (q : ByteArray) (b : Nat) (w : World) (hA : Kd.C Kd.string w A l.length l) (hc : l.length ≤ c) (hl : l.length ≤ 1048576) (hz : ∀ i, (l.getD i ByteArray.empty).size ≤ 17592186044416) (hx : w.cell? ⟨b, 0, none⟩ = some (.string q)) (hT : Aside0 (Lib.Utf8Tabs 0 1 w)) :
    Calls Tryd.prog 57 #[.slice A l.length c, .func (.func 58) #[] #[.pointer (some ⟨b, 0, none⟩)]] w fun e w' => e = .returned (.int .i64 (nameI l q)) ∧ Below w.heap.size w w' := by
  have HA := Aside0.mk hA
  have HZ := Aside0.mk hz
  have HX := Aside0.mk hx
  clear hA hz hx
  have hlt : b < w.heap.size := World.block_lt_of_cell? w _ HX.out
  have HR := Aside0.mk (show nameI l q = nameI l q from rfl)
  generalize hR : nameI l q = R at *
  have HRR := Aside0.mk hR
  clear hR HR
  go_enter Tryd.func57, Tryd.ntmps57
  go_wp2
  go_loopw [8] (fun v8 wr => ∃ i : Nat, i ≤ l.length ∧ v8 = .int .i64 (i : Int) ∧ Aside0 (∀ j < i, quoteS (l.getD j ByteArray.empty) ≠ q) ∧ Aside0 (Below w.heap.size w wr)) (fun v8 _ => l.length - (intOf v8).toNat)
  case atStart => exact ⟨0, by omega, rfl, ⟨fun j hj => absurd hj (by omega)⟩, ⟨Below.refl _ _⟩⟩
  case round =>
    obtain ⟨i, hi, rfl, hN, HB⟩ := hrel
    by_cases hlt2 : i < l.length
    · have hti : (i : Int) < (l.length : Int) := by omega
      obtain ⟨ad1, ea1, hx1⟩ := Kd.at_string (Kd.C_below HA.out HB.out) (i : Int) (by omega) hti
      subst ea1
      rw [Int.toNat_natCast] at hx1
      have hn1 : rdOf ByteArray.empty l (i : Int) = l.getD i ByteArray.empty := rfl
      rw [hn1] at hx1
      obtain ⟨x, hx⟩ : ∃ x, x = l.getD i ByteArray.empty := ⟨_, rfl⟩
      have hzx := HZ.out i
      rw [← hx] at hx1 hzx
      have HXX := Aside0.mk hx
      clear hx hn1
      have HW := Aside0.mk ((HB.out.cell (p := ⟨b, 0, none⟩) hlt).trans HX.out)
      have HTW := tabs_at hT HB.out
      by_cases he : quoteS x = q
      · have HI := Aside0.mk (nameIx_hit l q i hlt2 (by rw [← HXX.out, he]) hN.out)
        have cc := Lib.hid (name_clo x q (quoteS x) wr b true HW.out rfl (by rw [he]; exact beq_self_eq_true _) hzx HTW)
        obtain rfl : R = (i : Int) := by rw [← HRR.out, nameI, HI.out, if_pos hlt2]
        clear he HI
        go_wp2_with (first
          | (go_at_call 58
             refine cc.out.mono ?_
             rintro e v2 ⟨rfl, hb⟩
             have HB2 := Aside0.mk (HB.out.trans (hb.mono HB.out.size))
             clear hb)
          | fail)
        go_ret
        exact ⟨rfl, HB2.out⟩
      · have cc := Lib.hid (name_clo x q (quoteS x) wr b false HW.out rfl (str_ne he) hzx HTW)
        have HJ : Aside0 (∀ j < i + 1, quoteS (l.getD j ByteArray.empty) ≠ q) := ⟨fun j hj => by
          rcases Nat.lt_or_ge j i with h | h
          · exact hN.out j h
          · obtain rfl : j = i := by omega
            rw [← HXX.out]
            exact he⟩
        clear he
        go_wp2_with (first
          | (go_at_call 58
             refine cc.out.mono ?_
             rintro e v2 ⟨rfl, hb⟩
             have HB2 := Aside0.mk (HB.out.trans (hb.mono HB.out.size))
             clear hb)
          | fail)
        go_roundw
        case rel => exact ⟨i + 1, by omega, by go_num, HJ, HB2⟩
        case measure => simp [intOf]; omega
    · obtain rfl : i = l.length := by omega
      have HI := Aside0.mk (nameIx_none l q hN.out)
      obtain rfl : R = -1 := by rw [← HRR.out, nameI, if_neg HI.out]
      go_wp2
      go_ret
      exact ⟨rfl, HB.out⟩
set_option maxHeartbeats 2000000 in
set_option maxRecDepth 100000 in
theorem name_any (w : World) (g : Nat) (p0 p1 p3 : Value) (A : Option Addr) (c : Nat) (nl : List ByteArray) (l : List ByteArray) (h : Rdr w g p0 p1 (.slice A nl.length c) p3 l) (hE : ∀ W, w.grownBy W (some g) → Kd.C Kd.string W A nl.length nl ∧ Aside0 (Lib.Utf8Tabs 0 1 W)) (hc : nl.length ≤ c) (hl : nl.length ≤ 1048576) (hz : ∀ i, (nl.getD i ByteArray.empty).size ≤ 17592186044416) :
    Calls Tryd.prog 38 #[.pointer (some ⟨g, 0, none⟩)] w fun e w' => e = .returned (.int .i64 (nameI nl (l.headD ⟨#[]⟩))) ∧ (Rdr w' g p0 p1 (.slice A nl.length c) p3 l.tail ∧ w.grownBy w' (some g)) := by
  have cn := Lib.hid (next_any w g p0 p1 (.slice A nl.length c) p3 l h)
  have HE := Aside0.mk hE
  have hg0 : g < w.heap.size := by obtain ⟨_, _, h1, _⟩ := h.out; exact (Array.getElem?_eq_some_iff.1 h1).1
  have HZ := Aside0.mk hz
  have HL := Aside0.mk (And.intro hc hl)
  generalize l.headD ⟨#[]⟩ = q at *
  generalize hR : nameI nl q = R at *
  have HR := Aside0.mk hR
  clear h hE hz hR hc hl
  go_enter Tryd.func38, Tryd.ntmps38
  go_wp2_with (go_at_call 41; refine cn.out.mono ?_)
  rintro e v ⟨rfl, hr1, hg1⟩
  have HR1 := Aside0.mk hr1
  have HG1 := Aside0.mk hg1
  obtain ⟨A1, c1, hrow, _, _, _⟩ := hr1.out
  have HROW := Aside0.mk hrow
  have hgv : g < v.heap.size := (Array.getElem?_eq_some_iff.1 hrow).1
  clear hr1 hg1 hrow cn
  have q2 : ∀ o, (v.alloc o).cell? ⟨g, 2, none⟩ = some (.slice A nl.length c) := fun o => blk_cell (knew HROW.out) 2
  have hT2 : ∀ o, w.grownBy (v.alloc o) (some g) := fun o => HG1.out.trans (World.grownBy_alloc v o (some g))
  have HT2 := Aside0.mk hT2
  have cx := Lib.hid (fun (hx : (v.alloc (.cells #[.string q] 9)).cell? ⟨v.heap.size, 0, none⟩ = some (.string q)) => name_ix A c nl q v.heap.size (v.alloc (.cells #[.string q] 9)) (HE.out _ (hT2 _)).1 HL.out.1 HL.out.2 HZ.out hx (HE.out _ (hT2 _)).2)
  rw [HR.out] at cx
  clear hT2
  go_wp2_with (first
    | (go_at_call 57
       refine (cx.out (blk_cell (heap_alloc_new v _) 0)).mono ?_
       rintro e v2 ⟨rfl, hb⟩
       have HR2 := Aside0.mk (((HR1.out).below ((Below.refl _ _).alloc (Nat.le_refl _) _)).below hb)
       have HG2 := Aside0.mk ((HT2.out _).trans (grown_of_below hb (some g)))
       clear hb)
    | fail)
  go_ret
  exact ⟨rfl, HR2.out, HG2.out⟩
end Go.Proofs.YtpdinahdcedmkaaDoor.Ext
