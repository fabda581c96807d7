import Derived.Test.YtpdinahdcedmkaaDoorMWl
import Derived.WalkSmall
import Derived.Test.YtpdinahdcedmkaaDoorMHex
/- script.Words: the words of a line, as far as they are such. -/
namespace Go.Proofs.YtpdinahdcedmkaaDoor.ExtQ
open Go.Proofs.YtpdinahdcedmkaaDoor.Ext
set_option linter.unusedVariables false
set_option linter.unusedSimpArgs false
open Go.RowKit Go.Proofs.YtpdinahdcedmkaaDoorW.PrintLast Go.Proofs.YtpdinahdcedmkaaDoorW.PrintMore
open Go.Proofs.YtpdinahdcedmkaaDoorW.PrintWords hiding blk_cell blk_set nums_append

theorem info_string : (Tryd.prog.info? 9).map (fun i => (i.zero, i.size, i.bytes)) = some (some (.string ⟨#[]⟩), 1, 16) := by kernel_rfl
def strB (l : List UInt8) : ByteArray := ⟨l.toArray⟩
def wordsS (s : ByteArray) : Option (List ByteArray) := (wl s.data.toList [] false false false).map (·.map strB)
/-- what is known at a round's head -/
def WState (s : ByteArray) (U : Option (List ByteArray)) (L : List ByteArray) (fr pos : Nat) (q e sh : Bool) : Prop :=
  U = (wl (s.data.toList.drop pos) (cut s fr pos) q e sh).map (fun ws => L ++ ws.map strB) ∧ fr ≤ pos ∧ (e = true → q = true) ∧ (sh = true → q = false) ∧ ((q = true ∨ sh = true) → fr < pos)
theorem strB_cut (s : ByteArray) (a b : Nat) : strB (cut s a b) = s.extract a b := by
  apply ByteArray.ext
  rw [← Array.toList_inj, cut_data]
  rfl
theorem ws_start (s : ByteArray) : WState s (wordsS s) [] 0 0 false false false := ⟨by unfold wordsS; rw [cut_self]; simp, by omega, by simp, by simp, by simp⟩
section
variable {s : ByteArray} {U : Option (List ByteArray)} {L : List ByteArray} {fr pos : Nat} {q e sh : Bool}
theorem ws_esc (h : WState s U L fr pos true true sh) (hp : pos < s.size) (hw : pos + (Utf8.decode s pos).2 ≤ s.size) (hw1 : 1 ≤ (Utf8.decode s pos).2) : WState s U L fr (pos + (Utf8.decode s pos).2) true false sh :=
  ⟨by rw [h.1, wl_esc s fr pos sh h.2.1 hp hw hw1], by have := h.2.1; omega, by simp, h.2.2.2.1, fun x => by have := h.2.2.2.2 (.inl rfl); omega⟩
theorem ws_bs (h : WState s U L fr pos true false sh) (hp : pos < s.size) (hr : (Utf8.decode s pos).1 = 92) : WState s U L fr (pos + (Utf8.decode s pos).2) true true sh := by
  obtain ⟨h1, h2⟩ := wl_bs s fr pos sh h.2.1 hp hr
  rw [h2]
  exact ⟨by rw [h.1, h1], by have := h.2.1; omega, by simp, h.2.2.2.1, fun x => by have := h.2.2.2.2 (.inl rfl); omega⟩
theorem ws_open (h : WState s U L fr fr false false sh) (hp : fr < s.size) (hr : (Utf8.decode s fr).1 = 34) : WState s U L fr (fr + (Utf8.decode s fr).2) true false false := by
  obtain ⟨h1, h2⟩ := wl_q s fr fr false sh (Nat.le_refl _) hp hr
  rw [h2]
  rw [if_pos rfl] at h1
  have hs : sh = false := by
    cases sh with
    | false => rfl
    | true => have := h.2.2.2.2 (.inr rfl); omega
  subst hs
  exact ⟨by rw [h.1, h1], by omega, by simp, by simp, fun _ => by omega⟩
theorem ws_close (h : WState s U L fr pos true false sh) (hp : pos < s.size) (hr : (Utf8.decode s pos).1 = 34) : WState s U L fr (pos + (Utf8.decode s pos).2) false false true := by
  obtain ⟨h1, h2⟩ := wl_q s fr pos true sh h.2.1 hp hr
  rw [h2]
  have hlt := h.2.2.2.2 (.inl rfl)
  rw [if_neg (by omega), if_pos rfl] at h1
  exact ⟨by rw [h.1, h1], by omega, by simp, by simp, fun _ => by omega⟩
theorem ws_in (h : WState s U L fr pos true false sh) (hp : pos < s.size) (hw : pos + (Utf8.decode s pos).2 ≤ s.size) (hr : (Utf8.decode s pos).1 ≠ 34) (hr2 : (Utf8.decode s pos).1 ≠ 92) : WState s U L fr (pos + (Utf8.decode s pos).2) true false sh :=
  ⟨by rw [h.1, wl_rune s fr pos true sh (fun _ => rfl) h.2.1 hp hw hr (.inr rfl) (.inl hr2)], by have := h.2.1; omega, by simp, h.2.2.2.1, fun x => by have := h.2.2.2.2 (.inl rfl); omega⟩
theorem ws_out (h : WState s U L fr pos false false false) (hp : pos < s.size) (hw : pos + (Utf8.decode s pos).2 ≤ s.size) (hr : (Utf8.decode s pos).1 ≠ 34) (hr2 : (Utf8.decode s pos).1 ≠ 32) : WState s U L fr (pos + (Utf8.decode s pos).2) false false false :=
  ⟨by rw [h.1, wl_rune s fr pos false false (by simp) h.2.1 hp hw hr (.inl hr2) (.inr rfl)], by have := h.2.1; omega, by simp, by simp, by simp⟩
theorem ws_blank (h : WState s U L fr pos false false sh) (hp : pos < s.size) (hlt : fr < pos) (hr : (Utf8.decode s pos).1 = 32) : WState s U (L ++ [s.extract fr pos]) (pos + 1) (pos + (Utf8.decode s pos).2) false false false := by
  obtain ⟨h1, h2⟩ := wl_b s fr pos sh h.2.1 hp hr
  rw [h2]
  rw [if_neg (by omega)] at h1
  refine ⟨?_, Nat.le_refl _, by simp, by simp, by simp⟩
  rw [h.1, h1, Option.map_map]
  congr 1
  funext ws
  simp [strB_cut]
theorem ws_bad_b (h : WState s U L fr fr false false sh) (hp : fr < s.size) (hr : (Utf8.decode s fr).1 = 32) : U = none := by
  obtain ⟨h1, h2⟩ := wl_b s fr fr sh (Nat.le_refl _) hp hr
  rw [h.1, h1, if_pos rfl]; rfl
theorem ws_bad_q (h : WState s U L fr pos false false sh) (hp : pos < s.size) (hlt : fr < pos) (hr : (Utf8.decode s pos).1 = 34) : U = none := by
  obtain ⟨h1, h2⟩ := wl_q s fr pos false sh h.2.1 hp hr
  rw [h.1, h1, if_neg (by omega), if_neg (by simp)]; rfl
theorem ws_bad_s (h : WState s U L fr pos false false true) (hp : pos < s.size) (hr : (Utf8.decode s pos).1 ≠ 32) : U = none := by
  rw [h.1, wl_sh s fr pos (h.2.2.2.2 (.inr rfl)) hp hr]; rfl
theorem ws_end (h : WState s U L fr pos q e sh) (hp : pos = s.size) : U = if q = true ∨ fr = s.size then none else some (L ++ [s.extract fr s.size]) := by
  rw [h.1, wl_end s fr pos q e sh h.2.1 hp, hp]
  by_cases hc : q = true ∨ fr = s.size
  · rw [if_pos hc, if_pos hc]; rfl
  · rw [if_neg hc, if_neg hc]; simp [strB_cut]
end
def script_Words.f (a0 : ByteArray) : Option (List ByteArray × Int) := if a0.size ≤ 1073741824 then some (match wordsS a0 with | some l => (l, 0) | none => ([], 270)) else none
def WordsPost (w : World) (U : Option (List ByteArray)) (e : Ending) (w' : World) : Prop := (∃ v, e = .returned (.tuple #[v, .int .i64 (if U.isSome = true then 0 else 270)]) ∧ Kd.R Kd.string 9 w' w.heap.size (fun _ => True) v (U.getD [])) ∧ Below w.heap.size w w'
theorem own_str {w : World} {base : Nat} {v : Value} {l : List ByteArray} (h : w.ownsRow base 9 1 v l.length (l.map .string)) : Kd.R Kd.string 9 w base (fun _ => True) v l := by
  refine ⟨fun _ _ => trivial, l.map .string, h, ?_, fun j p hj => ?_⟩
  · show _ = _ * 1
    simp
  · show ((l.map Value.string).drop (j * 1)).take 1 = [Value.string p]
    rw [Nat.mul_one]
    have hlt : j < l.length := by
      rcases Nat.lt_or_ge j l.length with h | h
      · exact h
      · rw [List.getElem?_eq_none h] at hj; cases hj
    rw [List.getElem?_eq_getElem hlt] at hj
    obtain rfl := Option.some.inj hj
    rw [List.drop_eq_getElem_cons (by simpa using hlt)]
    simp
set_option maxHeartbeats 8000000 in
set_option maxRecDepth 100000 in
theorem words_walk (s : ByteArray) (w : World) (hs : s.size ≤ 1073741824) :
    Calls Tryd.prog 12 #[.string s] w (WordsPost w (wordsS s)) := by
  obtain ⟨i0, hi, hz0, hz1, hz2⟩ := info_parts info_string
  have HW := Aside0.mk (ws_start s)
  generalize wordsS s = U at *
  go_enter Tryd.func12, Tryd.ntmps12
  go_wp2
  go_step3
  go_wp2
  go_step3
  go_wp2
  go_loopw [4, 5, 6, 7, 8, 9] (fun v4 v5 v6 v7 v8 v9 wr => ∃ (pos fr : Nat) (q e sh : Bool) (L : List ByteArray), v5 = .int .i64 (fr : Int) ∧ v6 = .bool q ∧ v7 = .bool e ∧ v8 = .bool sh ∧ v9 = .bool true ∧ wr.heap[w.heap.size]? = some (.stringIter s pos) ∧ pos ≤ s.size ∧ Aside0 (WState s U L fr pos q e sh) ∧ Aside0 (wr.ownsRow w.heap.size 9 1 v4 L.length (L.map .string)) ∧ L.length ≤ fr ∧ Aside0 (Below w.heap.size w wr)) (fun _ _ _ _ _ _ wr => s.size - wr.iterPos w.heap.size)
  case atStart => exact ⟨0, 0, false, false, false, [], rfl, rfl, rfl, rfl, rfl, iter_new w s, by omega, HW, ⟨World.ownsRow_nil _ _ _ _⟩, by simp, ⟨below_iter w s⟩⟩
  case round =>
    clear HW
    obtain ⟨pos, fr, q, e, sh, L, rfl, rfl, rfl, rfl, rfl, hit, hpl, HS, HO, hL, HB⟩ := hrel
    by_cases hp : pos < s.size
    · have hw1 := Lib.decode_width_pos s pos hp
      have hwl := width_le s pos hp
      have hnx := fun ty => Lib.run_next_any_at (P := Tryd.prog) wr w.heap.size s pos ty hit hp
      have HI := Aside0.mk (Lib.iterAt_heap wr w.heap.size s pos (pos + (Utf8.decode s pos).2) hit)
      have HBI := Aside0.mk (Lib.below_iterAt HB.out (Nat.le_refl _) s (pos + (Utf8.decode s pos).2))
      have HM0 := iter_less hw1 hit hp
      have HOI := Aside0.mk (row_iterAt HO.out hit (pos + (Utf8.decode s pos).2))
      have HMM : Aside0 (s.size - (pos + (Utf8.decode s pos).2) < s.size - wr.iterPos w.heap.size) := ⟨by rwa [iterPos_of HI.out] at HM0⟩
      have hfr := HS.out.2.1
      clear HM0 HO HB
      cases e with
      | true =>
        obtain rfl : q = true := HS.out.2.2.1 rfl
        have HN := Aside0.mk (ws_esc HS.out hp hwl.1 hw1)
        generalize hd : Utf8.decode s pos = d at *
        obtain ⟨r, wd⟩ := d
        simp only at *
        have hwl1 := hwl.1
        clear hd hwl HS hw1
        go_wp2
        go_roundw
        case rel => exact ⟨pos + wd, fr, true, false, sh, L, rfl, rfl, rfl, rfl, rfl, HI.out, hwl1, HN, HOI, hL, HBI⟩
        case measure => rw [iterPos_of HI.out]; exact HMM.out
      | false =>
      cases q with
      | true =>
        have hlt := HS.out.2.2.2.2 (.inl rfl)
        have N1 := Aside0.mk (fun h => ws_bs HS.out hp h)
        have N2 := Aside0.mk (fun h => ws_close HS.out hp h)
        have N3 := Aside0.mk (fun h h2 => ws_in HS.out hp hwl.1 h h2)
        generalize hd : Utf8.decode s pos = d at *
        obtain ⟨r, wd⟩ := d
        simp only at *
        have hwl1 := hwl.1
        clear hd hwl HS hw1
        by_cases h92 : r = 92
        · have HN := Aside0.mk (N1.out h92)
          have t1 : ((r : Int) == 92) = true := beq_iff_eq.2 (by omega)
          clear N1 N2 N3 h92
          go_wp2
          go_roundw
          case rel => exact ⟨pos + wd, fr, true, true, sh, L, rfl, rfl, rfl, rfl, rfl, HI.out, hwl1, HN, HOI, hL, HBI⟩
          case measure => rw [iterPos_of HI.out]; exact HMM.out
        · have t1 : ((r : Int) == 92) = false := beq_eq_false_iff_ne.2 (by omega)
          by_cases h34 : r = 34
          · have HN := Aside0.mk (N2.out h34)
            have t2 : ((r : Int) == 34) = true := beq_iff_eq.2 (by omega)
            have t3 : ((pos : Int) == (fr : Int)) = false := beq_eq_false_iff_ne.2 (by omega)
            clear N1 N2 N3 h92 h34
            go_wp2
            go_roundw
            case rel => exact ⟨pos + wd, fr, false, false, true, L, rfl, rfl, rfl, rfl, rfl, HI.out, hwl1, HN, HOI, hL, HBI⟩
            case measure => rw [iterPos_of HI.out]; exact HMM.out
          · have HN := Aside0.mk (N3.out h34 h92)
            have t2 : ((r : Int) == 34) = false := beq_eq_false_iff_ne.2 (by omega)
            clear N1 N2 N3 h92 h34
            go_wp2
            go_roundw
            case rel => exact ⟨pos + wd, fr, true, false, sh, L, rfl, rfl, rfl, rfl, rfl, HI.out, hwl1, HN, HOI, hL, HBI⟩
            case measure => rw [iterPos_of HI.out]; exact HMM.out
      | false =>
      by_cases hlt : fr < pos
      · have t3 : ((pos : Int) == (fr : Int)) = false := beq_eq_false_iff_ne.2 (by omega)
        have t4 : decide ((fr : Int) < (pos : Int)) = true := decide_eq_true (by omega)
        have N1 := Aside0.mk (fun h => ws_bad_q HS.out hp hlt h)
        have N2 := Aside0.mk (fun h => ws_blank HS.out hp hlt h)
        cases sh with
        | true =>
          have N3 := Aside0.mk (fun h => ws_bad_s HS.out hp h)
          generalize hd : Utf8.decode s pos = d at *
          obtain ⟨r, wd⟩ := d
          simp only at *
          have hwl1 := hwl.1
          clear hd hwl HS hw1
          by_cases h34 : r = 34
          · have t2 : ((r : Int) == 34) = true := beq_iff_eq.2 (by omega)
            have t5 : ((r : Int) == 32) = false := beq_eq_false_iff_ne.2 (by omega)
            obtain rfl := N1.out h34
            go_wp2
            try rw [Exit.noGoto_ret]
            go_ret2
            exact ⟨⟨_, rfl, Kd.R_nil _ _ _ _ _⟩, HBI.out⟩
          · have t2 : ((r : Int) == 34) = false := beq_eq_false_iff_ne.2 (by omega)
            by_cases h32 : r = 32
            · have t5 : ((r : Int) == 32) = true := beq_iff_eq.2 (by omega)
              have HN := Aside0.mk (N2.out h32)
              clear N1 N2 N3 h32 h34
              go_wp2_with (first
                | (at_builtin
                   refine wpList_append_own _ rfl _ _ 25 rfl w.heap.size 9 i0 _ 1 16 Tryd.underlying25 hi hz0 hz1 hz2 rfl (by decide) _ _ _ rfl (HOI.out.alloc _) ⟨(wr.iterAt w.heap.size s (pos + wd)).heap.size, 0, none⟩ 1 1 [.string (s.extract fr pos)] rfl rfl (World.news_of_block (cs := #[.string (s.extract fr pos)]) (t := 9) (fr := (0, 0)) (heap_alloc_new _ _)) (by simp [Value.oneCell']) (by simp only [maxLen]; omega) (by omega) (by have hz9 := HBI.out.size; simp; omega) ?_
                   intro v3 w3 hown3 hg3 hx3
                   clear hx3
                   have HI3 := Aside0.mk (iter_grown (HOI.out.alloc _) hg3 (iter_alloc HI.out _))
                   have HB3 := Aside0.mk ((HBI.out.alloc HBI.out.size _).grown hg3 (by have hz9 := HBI.out.size; simp; omega) (fun k hk => own_base HOI.out k hk))
                   have HO3 := Aside0.mk hown3
                   clear hown3 hg3))
              go_roundw
              case rel => exact ⟨pos + wd, pos + 1, false, false, false, L ++ [s.extract fr pos], by go_num, rfl, rfl, rfl, rfl, HI3.out, hwl1, ⟨HN.out⟩, ⟨by simpa using HO3.out⟩, by simp; omega, HB3⟩
              case measure => rw [iterPos_of HI3.out]; exact HMM.out
            · have t5 : ((r : Int) == 32) = false := beq_eq_false_iff_ne.2 (by omega)
              obtain rfl := N3.out h32
              go_wp2
              try rw [Exit.noGoto_ret]
              go_ret2
              exact ⟨⟨_, rfl, Kd.R_nil _ _ _ _ _⟩, HBI.out⟩
        | false =>
          have N3 := Aside0.mk (fun h h2 => ws_out HS.out hp hwl.1 h h2)
          generalize hd : Utf8.decode s pos = d at *
          obtain ⟨r, wd⟩ := d
          simp only at *
          have hwl1 := hwl.1
          clear hd hwl HS hw1
          by_cases h34 : r = 34
          · have t2 : ((r : Int) == 34) = true := beq_iff_eq.2 (by omega)
            have t5 : ((r : Int) == 32) = false := beq_eq_false_iff_ne.2 (by omega)
            obtain rfl := N1.out h34
            go_wp2
            try rw [Exit.noGoto_ret]
            go_ret2
            exact ⟨⟨_, rfl, Kd.R_nil _ _ _ _ _⟩, HBI.out⟩
          · have t2 : ((r : Int) == 34) = false := beq_eq_false_iff_ne.2 (by omega)
            by_cases h32 : r = 32
            · have t5 : ((r : Int) == 32) = true := beq_iff_eq.2 (by omega)
              have HN := Aside0.mk (N2.out h32)
              clear N1 N2 N3 h32 h34
              go_wp2_with (first
                | (at_builtin
                   refine wpList_append_own _ rfl _ _ 25 rfl w.heap.size 9 i0 _ 1 16 Tryd.underlying25 hi hz0 hz1 hz2 rfl (by decide) _ _ _ rfl (HOI.out.alloc _) ⟨(wr.iterAt w.heap.size s (pos + wd)).heap.size, 0, none⟩ 1 1 [.string (s.extract fr pos)] rfl rfl (World.news_of_block (cs := #[.string (s.extract fr pos)]) (t := 9) (fr := (0, 0)) (heap_alloc_new _ _)) (by simp [Value.oneCell']) (by simp only [maxLen]; omega) (by omega) (by have hz9 := HBI.out.size; simp; omega) ?_
                   intro v3 w3 hown3 hg3 hx3
                   clear hx3
                   have HI3 := Aside0.mk (iter_grown (HOI.out.alloc _) hg3 (iter_alloc HI.out _))
                   have HB3 := Aside0.mk ((HBI.out.alloc HBI.out.size _).grown hg3 (by have hz9 := HBI.out.size; simp; omega) (fun k hk => own_base HOI.out k hk))
                   have HO3 := Aside0.mk hown3
                   clear hown3 hg3))
              go_roundw
              case rel => exact ⟨pos + wd, pos + 1, false, false, false, L ++ [s.extract fr pos], by go_num, rfl, rfl, rfl, rfl, HI3.out, hwl1, ⟨HN.out⟩, ⟨by simpa using HO3.out⟩, by simp; omega, HB3⟩
              case measure => rw [iterPos_of HI3.out]; exact HMM.out
            · have t5 : ((r : Int) == 32) = false := beq_eq_false_iff_ne.2 (by omega)
              have HN := Aside0.mk (N3.out h34 h32)
              clear N1 N2 N3 h32 h34
              go_wp2
              go_roundw
              case rel => exact ⟨pos + wd, fr, false, false, false, L, rfl, rfl, rfl, rfl, rfl, HI.out, hwl1, HN, HOI, hL, HBI⟩
              case measure => rw [iterPos_of HI.out]; exact HMM.out
      · obtain rfl : fr = pos := by omega
        have t3 : ((fr : Int) == (fr : Int)) = true := beq_iff_eq.2 rfl
        have t4 : decide ((fr : Int) < (fr : Int)) = false := decide_eq_false (by omega)
        obtain rfl : sh = false := by
          cases sh with
          | false => rfl
          | true => exact absurd (HS.out.2.2.2.2 (.inr rfl)) hlt
        have N1 := Aside0.mk (fun h => ws_open HS.out hp h)
        have N2 := Aside0.mk (fun h => ws_bad_b HS.out hp h)
        have N3 := Aside0.mk (fun h h2 => ws_out HS.out hp hwl.1 h h2)
        generalize hd : Utf8.decode s fr = d at *
        obtain ⟨r, wd⟩ := d
        simp only at *
        have hwl1 := hwl.1
        clear hd hwl HS hw1
        by_cases h34 : r = 34
        · have t2 : ((r : Int) == 34) = true := beq_iff_eq.2 (by omega)
          have HN := Aside0.mk (N1.out h34)
          clear N1 N2 N3 h34 hlt hfr
          go_wp2
          go_roundw
          case rel => exact ⟨fr + wd, fr, true, false, false, L, rfl, rfl, rfl, rfl, rfl, HI.out, hwl1, HN, HOI, hL, HBI⟩
          case measure => rw [iterPos_of HI.out]; exact HMM.out
        · have t2 : ((r : Int) == 34) = false := beq_eq_false_iff_ne.2 (by omega)
          by_cases h32 : r = 32
          · have t5 : ((r : Int) == 32) = true := beq_iff_eq.2 (by omega)
            obtain rfl := N2.out h32
            go_wp2
            try rw [Exit.noGoto_ret]
            go_ret2
            exact ⟨⟨_, rfl, Kd.R_nil _ _ _ _ _⟩, HBI.out⟩
          · have t5 : ((r : Int) == 32) = false := beq_eq_false_iff_ne.2 (by omega)
            have HN := Aside0.mk (N3.out h34 h32)
            clear N1 N2 N3 h32 h34 hlt hfr
            go_wp2
            go_roundw
            case rel => exact ⟨fr + wd, fr, false, false, false, L, rfl, rfl, rfl, rfl, rfl, HI.out, hwl1, HN, HOI, hL, HBI⟩
            case measure => rw [iterPos_of HI.out]; exact HMM.out
    · have hnx := fun ty => Lib.run_next_end_at (P := Tryd.prog) wr w.heap.size s pos ty hit hp
      have hU := ws_end HS.out (by omega)
      have hfr := HS.out.2.1
      have HBI := HB
      clear HS HB
      cases q with
      | true =>
        rw [if_pos (.inl rfl)] at hU
        obtain rfl := hU
        go_wp2
        try rw [Exit.noGoto_ret]
        go_ret2
        exact ⟨⟨_, rfl, Kd.R_nil _ _ _ _ _⟩, HBI.out⟩
      | false =>
        by_cases hf : fr = s.size
        · rw [if_pos (.inr hf)] at hU
          obtain rfl := hU
          have t3 : ((fr : Int) == (s.size : Int)) = true := beq_iff_eq.2 (by omega)
          clear hf
          go_wp2
          try rw [Exit.noGoto_ret]
          go_ret2
          exact ⟨⟨_, rfl, Kd.R_nil _ _ _ _ _⟩, HBI.out⟩
        · rw [if_neg (by simp [hf])] at hU
          obtain rfl := hU
          have t3 : ((fr : Int) == (s.size : Int)) = false := beq_eq_false_iff_ne.2 (by omega)
          clear hf
          go_wp2_with (first
            | (at_builtin
               refine wpList_append_own _ rfl _ _ 25 rfl w.heap.size 9 i0 _ 1 16 Tryd.underlying25 hi hz0 hz1 hz2 rfl (by decide) _ _ _ rfl (HO.out.alloc _) ⟨wr.heap.size, 0, none⟩ 1 1 [.string (s.extract fr s.size)] rfl rfl (World.news_of_block (cs := #[.string (s.extract fr s.size)]) (t := 9) (fr := (0, 0)) (heap_alloc_new _ _)) (by simp [Value.oneCell']) (by simp only [maxLen]; omega) (by omega) (by have hz9 := HBI.out.size; simp; omega) ?_
               intro v3 w3 hown3 hg3 hx3
               clear hx3
               have HB3 := Aside0.mk ((HBI.out.alloc HBI.out.size _).grown hg3 (by have hz9 := HBI.out.size; simp; omega) (fun k hk => own_base HO.out k hk))
               have HO3 := Aside0.mk hown3
               clear hown3 hg3))
          try rw [Exit.noGoto_ret]
          go_ret2
          exact ⟨⟨_, rfl, own_str (by simpa using HO3.out)⟩, HB3.out⟩
theorem script_Words.calls (a0 : ByteArray) (r1 : List ByteArray) (r2 : Int) (w : World) (h : script_Words.f a0 = some (r1, r2)) :
    Calls Tryd.prog 12 #[.string a0] w fun e w' => ∃ v0_ : Value, e = .returned (.tuple #[v0_, .int .i64 r2]) ∧ Kd.R Kd.string 9 w' w.heap.size (fun _ => True) v0_ r1 ∧ Below w.heap.size w w' := by
  unfold script_Words.f at h
  by_cases h0 : a0.size ≤ 1073741824
  · rw [if_pos h0] at h
    refine (words_walk a0 w h0).mono ?_
    rintro e w' ⟨⟨v, he, hv⟩, hb⟩
    cases hU : wordsS a0 with
    | none =>
      rw [hU] at h he hv
      simp only [Option.some.injEq, Prod.mk.injEq] at h
      obtain ⟨rfl, rfl⟩ := h
      exact ⟨v, he, hv, hb⟩
    | some l =>
      rw [hU] at h he hv
      simp only [Option.some.injEq, Prod.mk.injEq] at h
      obtain ⟨rfl, rfl⟩ := h
      exact ⟨v, he, hv, hb⟩
  · rw [if_neg h0] at h; cases h
end Go.Proofs.YtpdinahdcedmkaaDoor.ExtQ
/- script.reader: a reader of words; next, number, name. -/
namespace Go.Proofs.YtpdinahdcedmkaaDoor.ExtQ
open Go.Proofs.YtpdinahdcedmkaaDoor.Ext
set_option linter.unusedVariables false
set_option linter.unusedSimpArgs false
open Go.RowKit Go.Proofs.YtpdinahdcedmkaaDoorW.PrintLast Go.Proofs.YtpdinahdcedmkaaDoorW.PrintMore
open Go.Proofs.YtpdinahdcedmkaaDoorW.PrintWords hiding blk_cell blk_set nums_append

/-- strings that lie in a block of strings -/
structure StrAt (w : World) (A : Option Addr) (l : List ByteArray) : Prop where mk ::
  (out : 0 < l.length → ∃ b i cells fr, A = some ⟨b, i, none⟩ ∧ w.heap[b]? = some (.cells cells 9 fr) ∧ ∀ j s, l[j]? = some s → w.cell? ⟨b, i + j, none⟩ = some (.string s))
theorem StrAt.move {w w' : World} {A : Option Addr} {l : List ByteArray} {g : Nat} {o : Obj} (h : StrAt w A l) (hg : w.grownBy w' (some g)) (ho : w.heap[g]? = some o) (hne : ∀ cells fr, o ≠ .cells cells 9 fr) : StrAt w' A l := by
  refine ⟨fun hl => ?_⟩
  obtain ⟨b, i, cells, fr, h1, h2, h3⟩ := h.out hl
  have hb : b ≠ g := by
    rintro rfl
    rw [ho] at h2
    exact hne _ _ (Option.some.inj h2)
  have hk := hg.block b (Array.getElem?_eq_some_iff.1 h2).1 (by simpa using hb)
  exact ⟨b, i, cells, fr, h1, hk.trans h2, fun j s hj => hg.cell (h3 j s hj) (by simpa using hb)⟩
theorem StrAt.below {w w' : World} {A : Option Addr} {l : List ByteArray} (h : StrAt w A l) (hb : Below w.heap.size w w') : StrAt w' A l := by
  refine ⟨fun hl => ?_⟩
  obtain ⟨b, i, cells, fr, h1, h2, h3⟩ := h.out hl
  exact ⟨b, i, cells, fr, h1, krow h2 hb, fun j s hj => (hb.cell (p := ⟨b, i + j, none⟩) (Array.getElem?_eq_some_iff.1 h2).1).trans (h3 j s hj)⟩
theorem StrAt.tail {w : World} {b i : Nat} {s : ByteArray} {t : List ByteArray} (h : StrAt w (some ⟨b, i, none⟩) (s :: t)) : StrAt w (some ⟨b, i + 1, none⟩) t := by
  refine ⟨fun hl => ?_⟩
  obtain ⟨b', i', cells, fr, h1, h2, h3⟩ := h.out (by simp)
  simp only [Option.some.injEq, Addr.mk.injEq, and_true] at h1
  obtain ⟨rfl, rfl⟩ := h1
  refine ⟨b, i + 1, cells, fr, rfl, h2, fun j s' hj => ?_⟩
  have := h3 (j + 1) s' (by simpa using hj)
  rwa [show i + 1 + j = i + (j + 1) by omega]
/-- a reader with what is left of its words -/
structure Rdr (w : World) (g : Nat) (p0 p1 p2 p3 : Value) (l : List ByteArray) : Prop where mk ::
  (out : ∃ A c, w.heap[g]? = some (.cells #[p0, p1, p2, p3, .slice A l.length c] 66) ∧ l.length ≤ c ∧ l.length ≤ 1073741824 ∧ StrAt w A l)
theorem Rdr.move {w w' : World} {g ab : Nat} {p0 p1 p2 p3 : Value} {l : List ByteArray} {o : Obj} (h : Rdr w g p0 p1 p2 p3 l) (hg : w.grownBy w' (some ab)) (ho : w.heap[ab]? = some o) (hne : ∀ cells fr, o ≠ .cells cells 9 fr) (hab : ab ≠ g) : Rdr w' g p0 p1 p2 p3 l := by
  obtain ⟨A, c, h1, h2, h3, h4⟩ := h.out
  exact ⟨A, c, (hg.block g (Array.getElem?_eq_some_iff.1 h1).1 (by simpa using Ne.symm hab)).trans h1, h2, h3, h4.move hg ho hne⟩
theorem Rdr.below {w w' : World} {g : Nat} {p0 p1 p2 p3 : Value} {l : List ByteArray} (h : Rdr w g p0 p1 p2 p3 l) (hb : Below w.heap.size w w') : Rdr w' g p0 p1 p2 p3 l := by
  obtain ⟨A, c, h1, h2, h3, h4⟩ := h.out
  exact ⟨A, c, krow h1 hb, h2, h3, h4.below hb⟩
theorem setCell_grown (w : World) (b i : Nat) (v : Value) : w.grownBy (w.setCell ⟨b, i, none⟩ v) (some b) :=
  ⟨rfl, rfl, rfl, by simp [World.setCell], fun k _ hk => Below.heap_setCell w ⟨b, i, none⟩ v k (by simpa using hk)⟩

set_option maxHeartbeats 2000000 in
set_option maxRecDepth 100000 in
theorem next_nil (w : World) (g : Nat) (p0 p1 p2 p3 : Value) (A : Option Addr) (c : Nat) (h : w.heap[g]? = some (.cells #[p0, p1, p2, p3, .slice A 0 c] 66)) :
    Calls Tryd.prog 41 #[.pointer (some ⟨g, 0, none⟩)] w fun e w' => e = .returned (.string ⟨#[]⟩) ∧ w = w' := by
  have q4 : w.cell? ⟨g, 4, none⟩ = some (.slice A 0 c) := blk_cell h 4
  clear h
  go_enter Tryd.func41, Tryd.ntmps41
  go_wp2
  go_ret
  exact ⟨rfl, rfl⟩
set_option maxHeartbeats 2000000 in
set_option maxRecDepth 100000 in
theorem next_cons (w : World) (g : Nat) (p0 p1 p2 p3 : Value) (b i n c : Nat) (s : ByteArray) (h : w.heap[g]? = some (.cells #[p0, p1, p2, p3, .slice (some ⟨b, i, none⟩) (n + 1) c] 66)) (hc : n + 1 ≤ c) (hn : n ≤ 1073741824) (hx : w.cell? ⟨b, i, none⟩ = some (.string s)) :
    Calls Tryd.prog 41 #[.pointer (some ⟨g, 0, none⟩)] w fun e w' => e = .returned (.string s) ∧ w' = w.setCell ⟨g, 4, none⟩ (.slice (some (if c = 1 then ⟨b, i, none⟩ else ⟨b, i + 1, none⟩)) n (c - 1)) := by
  have q4 : w.cell? ⟨g, 4, none⟩ = some (.slice (some ⟨b, i, none⟩) (n + 1) c) := blk_cell h 4
  have f4 : w.frozen? ⟨g, 4, none⟩ = false := blk_free h 4
  have t0 : (((n : Int) + 1) == 0) = false := beq_eq_false_iff_ne.2 (by omega)
  clear h
  go_enter Tryd.func41, Tryd.ntmps41
  go_wp2
  all_goals
    go_ret
    exact ⟨rfl, rfl⟩
theorem next_any (w : World) (g : Nat) (p0 p1 p2 p3 : Value) (l : List ByteArray) (h : Rdr w g p0 p1 p2 p3 l) :
    Calls Tryd.prog 41 #[.pointer (some ⟨g, 0, none⟩)] w fun e w' => e = .returned (.string (l.headD ⟨#[]⟩)) ∧ (Rdr w' g p0 p1 p2 p3 l.tail ∧ w.grownBy w' (some g)) := by
  obtain ⟨A, c, h1, h2, h3, h4⟩ := h.out
  cases l with
  | nil =>
    refine (next_nil w g p0 p1 p2 p3 A c h1).mono ?_
    rintro e w' ⟨rfl, rfl⟩
    exact ⟨rfl, h, World.grownBy.refl _ _⟩
  | cons s t =>
    obtain ⟨b, i, cells, fr, rfl, hb, hx⟩ := h4.out (by simp)
    have hx0 := hx 0 s rfl
    refine (next_cons w g p0 p1 p2 p3 b i t.length c s h1 h2 (by simp at h3; omega) hx0).mono ?_
    rintro e w' ⟨rfl, rfl⟩
    have hg := setCell_grown w g 4 (.slice (some (if c = 1 then ⟨b, i, none⟩ else ⟨b, i + 1, none⟩)) t.length (c - 1))
    refine ⟨rfl, ?_, hg⟩
    have hrow := blk_set h1 4 (.slice (some (if c = 1 then ⟨b, i, none⟩ else ⟨b, i + 1, none⟩)) t.length (c - 1))
    refine ⟨_, _, hrow, by simp at h2; simp; omega, by simp at h3; simp; omega, ?_⟩
    by_cases hc : c = 1
    · have : t = [] := by
        have : t.length = 0 := by simp at h2; omega
        exact List.length_eq_zero_iff.1 this
      subst this
      exact ⟨fun hl => absurd hl (by simp)⟩
    · rw [if_neg hc] at hg ⊢
      exact (h4.tail).move hg h1 (fun cells fr he => by cases he)
def numOf (s : ByteArray) : Int := (numS s).1
set_option maxHeartbeats 2000000 in
set_option maxRecDepth 100000 in
theorem number_any (w : World) (g : Nat) (p0 p1 p2 p3 : Value) (l : List ByteArray) (h : Rdr w g p0 p1 p2 p3 l) (hz : (l.headD ⟨#[]⟩).size ≤ 140737488351232) :
    Calls Tryd.prog 39 #[.pointer (some ⟨g, 0, none⟩)] w fun e w' => e = .returned (.int .u64 (numOf (l.headD ⟨#[]⟩))) ∧ (Rdr w' g p0 p1 p2 p3 l.tail ∧ w.grownBy w' (some g)) := by
  have cn := Lib.hid (next_any w g p0 p1 p2 p3 l h)
  have cm := Lib.hid (fun w => octet_Number.calls (l.headD ⟨#[]⟩) (numS (l.headD ⟨#[]⟩)).1 (numS (l.headD ⟨#[]⟩)).2 w (by unfold octet_Number.f; rw [if_pos hz]))
  unfold numOf
  generalize (numS (l.headD ⟨#[]⟩)).1 = m1 at *
  generalize (numS (l.headD ⟨#[]⟩)).2 = m2 at *
  generalize l.headD ⟨#[]⟩ = s at *
  clear h hz
  go_enter Tryd.func39, Tryd.ntmps39
  go_wp2_with (first
    | (go_at_call 41
       refine cn.out.mono ?_
       rintro e v ⟨rfl, hr1, hg1⟩
       have HR1 := Aside0.mk hr1
       have HG1 := Aside0.mk hg1
       clear hr1 hg1)
    | (go_at_call 59
       refine (cm.out _).mono ?_
       rintro e v2 ⟨rfl, hb⟩
       have HR2 := Aside0.mk (HR1.out.below hb)
       have HG2 := Aside0.mk (HG1.out.trans (grown_of_below hb (some g)))
       clear hb)
    | fail)
  go_ret
  exact ⟨rfl, HR2.out, HG2.out⟩
/-- the number of the name that is so in quotes; -1: there is none -/
def nameIx (l : List ByteArray) (q : ByteArray) : Nat := l.findIdx (fun s => decide (quoteS s = q))
def nameI (l : List ByteArray) (q : ByteArray) : Int := if nameIx l q < l.length then (nameIx l q : Int) else -1
theorem nameIx_hit (l : List ByteArray) (q : ByteArray) (i : Nat) (hi : i < l.length) (h : quoteS (l.getD i ByteArray.empty) = q) (hn : ∀ j < i, quoteS (l.getD j ByteArray.empty) ≠ q) : nameIx l q = i := by
  unfold nameIx
  rw [List.findIdx_eq hi]
  refine ⟨by rw [List.getD_eq_getElem?_getD, List.getElem?_eq_getElem hi] at h; simpa using h, fun j hj => ?_⟩
  have := hn j hj
  rw [List.getD_eq_getElem?_getD, List.getElem?_eq_getElem (show j < l.length by omega)] at this
  simpa using this
theorem nameIx_none (l : List ByteArray) (q : ByteArray) (hn : ∀ j < l.length, quoteS (l.getD j ByteArray.empty) ≠ q) : ¬ nameIx l q < l.length := by
  intro h
  unfold nameIx at h
  have h1 := List.findIdx_getElem (w := h)
  have h2 := hn _ h
  rw [List.getD_eq_getElem?_getD, List.getElem?_eq_getElem h] at h2
  exact h2 (by simpa using h1)
set_option maxHeartbeats 2000000 in
set_option maxRecDepth 100000 in
theorem name_clo (s q x : ByteArray) (w : World) (b : Nat) (R : Bool) (hx : w.cell? ⟨b, 0, none⟩ = some (.string q)) (hq : quoteS s = x) (hR : (x.toList == q.toList) = R) (hz : s.size ≤ 17592186044416) (hT : Aside0 (Lib.Utf8Tabs 0 1 w)) :
    Calls Tryd.prog 58 #[.string s, .pointer (some ⟨b, 0, none⟩)] w fun e w' => e = .returned (.bool R) ∧ Below w.heap.size w w' := by
  have cq := Lib.hid (fun w hT => octet_Quote.calls s x w (by unfold octet_Quote.f; rw [if_pos hz, hq]) hT)
  have hlt : b < w.heap.size := World.block_lt_of_cell? w _ hx
  clear hq
  go_enter Tryd.func58, Tryd.ntmps58
  go_wp2
  refine wp_region_held_drew (S := (fun W => W.cell? ⟨b, 0, none⟩ = some (.string q) ∧ Aside0 (Below w.heap.size w W))) (by kernel_rfl) ?_ (fun hHeld => ?_)
  · try dsimp only
    exact ⟨hx, ⟨(Below.refl _ _).drew⟩⟩
  refine wpAnyH_take (i := 0) (v := ?_) rfl (by kernel_rfl) (by kernel_rfl) (by kernel_rfl) (fun _ _ _ h => h) (Or.inl ⟨by rfl, ?_⟩) (by assumption) ?_
  rotate_left
  · intro w hSw
    try dsimp only at hSw
    go_simp
    try with_reducible rfl
  try simp only [Act.put, List.setIfInBounds_toArray, List.set_cons_zero, List.set_cons_succ, List.getElem_toArray, List.getElem_cons_succ, List.getElem_cons_zero]
  refine wpAnyH_take (i := 2) (v := ?_) rfl (by kernel_rfl) (by kernel_rfl) (by kernel_rfl) (fun _ _ _ h => h) (Or.inl ⟨by rfl, ?_⟩) (by assumption) ?_
  rotate_left
  · intro w hSw
    try dsimp only at hSw
    go_simp
    try with_reducible rfl
  try simp only [Act.put, List.setIfInBounds_toArray, List.set_cons_zero, List.set_cons_succ, List.getElem_toArray, List.getElem_cons_succ, List.getElem_cons_zero]
  refine wpAnyH_ready (rs := [1]) (by kernel_rfl) (by simp) ?_
  refine AllReadyH.cons rfl (fun K hK => ?_) AllReadyH.nil
  go_simp
  go_at_call 51
  with_reducible refine (cq.out _ (tabs_at hT hHeld.2.out)).mono ?_
  rintro e v2 ⟨rfl, hbz⟩
  try go_wp2_with fail
  refine hK.out _ _ ?_ ?_
  · try dsimp only
    exact ⟨(hbz.cell (p := ⟨b, 0, none⟩) (by have := hHeld.2.out.size; simp; omega)).trans hHeld.1, ⟨hHeld.2.out.trans (hbz.mono hHeld.2.out.size)⟩⟩
  clear hHeld hbz hK K
  intro hHeld
  try simp only [Act.put, List.setIfInBounds_toArray, List.set_cons_zero, List.set_cons_succ, List.getElem_toArray, List.getElem_cons_succ, List.getElem_cons_zero]
  refine wpAnyH_take (i := 3) (v := ?_) rfl (by kernel_rfl) (by kernel_rfl) (by kernel_rfl) (fun _ _ _ h => h) (Or.inl ⟨by rfl, ?_⟩) (by assumption) ?_
  rotate_left
  · intro w hSw
    try dsimp only at hSw
    go_simp
    try with_reducible rfl
  try simp only [Act.put, List.setIfInBounds_toArray, List.set_cons_zero, List.set_cons_succ, List.getElem_toArray, List.getElem_cons_succ, List.getElem_cons_zero]
  refine wpAnyH_take (i := 4) (v := ?_) rfl (by kernel_rfl) (by kernel_rfl) (by kernel_rfl) (fun _ _ _ h => h) (Or.inl ⟨by rfl, ?_⟩) (by assumption) ?_
  rotate_left
  · intro w hSw
    try dsimp only at hSw
    go_simp
    try with_reducible rfl
  try simp only [Act.put, List.setIfInBounds_toArray, List.set_cons_zero, List.set_cons_succ, List.getElem_toArray, List.getElem_cons_succ, List.getElem_cons_zero]
  refine wpAnyH_done (by kernel_rfl) ?_ _
  go_wp2
  go_ret
  exact ⟨rfl, hHeld.2.out⟩
set_option maxHeartbeats 4000000 in
set_option maxRecDepth 100000 in
theorem name_ix (A : Option Addr) (c : Nat) (l : List ByteArray) (q : ByteArray) (b : Nat) (w : World) (hA : Kd.C Kd.string w A l.length l) (hc : l.length ≤ c) (hl : l.length ≤ 1048576) (hz : ∀ i, (l.getD i ByteArray.empty).size ≤ 17592186044416) (hx : w.cell? ⟨b, 0, none⟩ = some (.string q)) (hT : Aside0 (Lib.Utf8Tabs 0 1 w)) :
    Calls Tryd.prog 57 #[.slice A l.length c, .func (.func 58) #[] #[.pointer (some ⟨b, 0, none⟩)]] w fun e w' => e = .returned (.int .i64 (nameI l q)) ∧ Below w.heap.size w w' := by
  have HA := Aside0.mk hA
  have HZ := Aside0.mk hz
  have HX := Aside0.mk hx
  clear hA hz hx
  have hlt : b < w.heap.size := World.block_lt_of_cell? w _ HX.out
  have HR := Aside0.mk (show nameI l q = nameI l q from rfl)
  generalize hR : nameI l q = R at *
  have HRR := Aside0.mk hR
  clear hR HR
  go_enter Tryd.func57, Tryd.ntmps57
  go_wp2
  go_loopw [8] (fun v8 wr => ∃ i : Nat, i ≤ l.length ∧ v8 = .int .i64 (i : Int) ∧ Aside0 (∀ j < i, quoteS (l.getD j ByteArray.empty) ≠ q) ∧ Aside0 (Below w.heap.size w wr)) (fun v8 _ => l.length - (intOf v8).toNat)
  case atStart => exact ⟨0, by omega, rfl, ⟨fun j hj => absurd hj (by omega)⟩, ⟨Below.refl _ _⟩⟩
  case round =>
    obtain ⟨i, hi, rfl, hN, HB⟩ := hrel
    by_cases hlt2 : i < l.length
    · have hti : (i : Int) < (l.length : Int) := by omega
      obtain ⟨ad1, ea1, hx1⟩ := Kd.at_string (Kd.C_below HA.out HB.out) (i : Int) (by omega) hti
      subst ea1
      rw [Int.toNat_natCast] at hx1
      have hn1 : rdOf ByteArray.empty l (i : Int) = l.getD i ByteArray.empty := rfl
      rw [hn1] at hx1
      obtain ⟨x, hx⟩ : ∃ x, x = l.getD i ByteArray.empty := ⟨_, rfl⟩
      have hzx := HZ.out i
      rw [← hx] at hx1 hzx
      have HXX := Aside0.mk hx
      clear hx hn1
      have HW := Aside0.mk ((HB.out.cell (p := ⟨b, 0, none⟩) hlt).trans HX.out)
      have HTW := tabs_at hT HB.out
      by_cases he : quoteS x = q
      · have HI := Aside0.mk (nameIx_hit l q i hlt2 (by rw [← HXX.out, he]) hN.out)
        have cc := Lib.hid (name_clo x q (quoteS x) wr b true HW.out rfl (by rw [he]; exact beq_self_eq_true _) hzx HTW)
        obtain rfl : R = (i : Int) := by rw [← HRR.out, nameI, HI.out, if_pos hlt2]
        clear he HI
        go_wp2_with (first
          | (go_at_call 58
             refine cc.out.mono ?_
             rintro e v2 ⟨rfl, hb⟩
             have HB2 := Aside0.mk (HB.out.trans (hb.mono HB.out.size))
             clear hb)
          | fail)
        go_ret
        exact ⟨rfl, HB2.out⟩
      · have cc := Lib.hid (name_clo x q (quoteS x) wr b false HW.out rfl (str_ne he) hzx HTW)
        have HJ : Aside0 (∀ j < i + 1, quoteS (l.getD j ByteArray.empty) ≠ q) := ⟨fun j hj => by
          rcases Nat.lt_or_ge j i with h | h
          · exact hN.out j h
          · obtain rfl : j = i := by omega
            rw [← HXX.out]
            exact he⟩
        clear he
        go_wp2_with (first
          | (go_at_call 58
             refine cc.out.mono ?_
             rintro e v2 ⟨rfl, hb⟩
             have HB2 := Aside0.mk (HB.out.trans (hb.mono HB.out.size))
             clear hb)
          | fail)
        go_roundw
        case rel => exact ⟨i + 1, by omega, by go_num, HJ, HB2⟩
        case measure => simp [intOf]; omega
    · obtain rfl : i = l.length := by omega
      have HI := Aside0.mk (nameIx_none l q hN.out)
      obtain rfl : R = -1 := by rw [← HRR.out, nameI, if_neg HI.out]
      go_wp2
      go_ret
      exact ⟨rfl, HB.out⟩
set_option maxHeartbeats 2000000 in
set_option maxRecDepth 100000 in
theorem name_any (w : World) (g : Nat) (p0 p1 p3 : Value) (A : Option Addr) (c : Nat) (nl : List ByteArray) (l : List ByteArray) (h : Rdr w g p0 p1 (.slice A nl.length c) p3 l) (hE : ∀ W, w.grownBy W (some g) → Kd.C Kd.string W A nl.length nl ∧ Aside0 (Lib.Utf8Tabs 0 1 W)) (hc : nl.length ≤ c) (hl : nl.length ≤ 1048576) (hz : ∀ i, (nl.getD i ByteArray.empty).size ≤ 17592186044416) :
    Calls Tryd.prog 38 #[.pointer (some ⟨g, 0, none⟩)] w fun e w' => e = .returned (.int .i64 (nameI nl (l.headD ⟨#[]⟩))) ∧ (Rdr w' g p0 p1 (.slice A nl.length c) p3 l.tail ∧ w.grownBy w' (some g)) := by
  have cn := Lib.hid (next_any w g p0 p1 (.slice A nl.length c) p3 l h)
  have HE := Aside0.mk hE
  have hg0 : g < w.heap.size := by obtain ⟨_, _, h1, _⟩ := h.out; exact (Array.getElem?_eq_some_iff.1 h1).1
  have HZ := Aside0.mk hz
  have HL := Aside0.mk (And.intro hc hl)
  generalize l.headD ⟨#[]⟩ = q at *
  generalize hR : nameI nl q = R at *
  have HR := Aside0.mk hR
  clear h hE hz hR hc hl
  go_enter Tryd.func38, Tryd.ntmps38
  go_wp2_with (go_at_call 41; refine cn.out.mono ?_)
  rintro e v ⟨rfl, hr1, hg1⟩
  have HR1 := Aside0.mk hr1
  have HG1 := Aside0.mk hg1
  obtain ⟨A1, c1, hrow, _, _, _⟩ := hr1.out
  have HROW := Aside0.mk hrow
  have hgv : g < v.heap.size := (Array.getElem?_eq_some_iff.1 hrow).1
  clear hr1 hg1 hrow cn
  have q2 : ∀ o, (v.alloc o).cell? ⟨g, 2, none⟩ = some (.slice A nl.length c) := fun o => blk_cell (knew HROW.out) 2
  have hT2 : ∀ o, w.grownBy (v.alloc o) (some g) := fun o => HG1.out.trans (World.grownBy_alloc v o (some g))
  have HT2 := Aside0.mk hT2
  have cx := Lib.hid (fun (hx : (v.alloc (.cells #[.string q] 9)).cell? ⟨v.heap.size, 0, none⟩ = some (.string q)) => name_ix A c nl q v.heap.size (v.alloc (.cells #[.string q] 9)) (HE.out _ (hT2 _)).1 HL.out.1 HL.out.2 HZ.out hx (HE.out _ (hT2 _)).2)
  rw [HR.out] at cx
  clear hT2
  go_wp2_with (first
    | (go_at_call 57
       refine (cx.out (blk_cell (heap_alloc_new v _) 0)).mono ?_
       rintro e v2 ⟨rfl, hb⟩
       have HR2 := Aside0.mk (((HR1.out).below ((Below.refl _ _).alloc (Nat.le_refl _) _)).below hb)
       have HG2 := Aside0.mk ((HT2.out _).trans (grown_of_below hb (some g)))
       clear hb)
    | fail)
  go_ret
  exact ⟨rfl, HR2.out, HG2.out⟩
end Go.Proofs.YtpdinahdcedmkaaDoor.ExtQ
