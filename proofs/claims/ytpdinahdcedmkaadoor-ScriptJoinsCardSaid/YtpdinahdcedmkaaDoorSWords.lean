/- script.Words: the words of a line, as far as they are such. -/
import Derived.Test.YtpdinahdcedmkaaDoorSWl
import Derived.Test.YtpdinahdcedmkaaDoorSExt
import Derived.WalkSmall
namespace Go.Proofs.YtpdinahdcedmkaaDoor.Ext
set_option linter.unusedVariables false
set_option linter.unusedSimpArgs false
open Go.RowKit Go.Proofs.YtpdinahdcedmkaaDoorW.PrintWords Go.Proofs.YtpdinahdcedmkaaDoorW.PrintLast Go.Proofs.YtpdinahdcedmkaaDoorW.PrintMore

theorem info_string : (Tryd.prog.info? 9).map (fun i => (i.zero, i.size, i.bytes)) = some (some (.string ⟨#[]⟩), 1, 16) := by kernel_rfl
def strB (l : List UInt8) : ByteArray := ⟨l.toArray⟩
def wordsS (s : ByteArray) : Option (List ByteArray) := (wl s.data.toList [] false false false).map (·.map strB)
/-- what is known at a round's head -/
def WState (s : ByteArray) (U : Option (List ByteArray)) (L : List ByteArray) (fr pos : Nat) (q e sh : Bool) : Prop :=
  U = (wl (s.data.toList.drop pos) (cut s fr pos) q e sh).map (fun ws => L ++ ws.map strB) ∧ fr ≤ pos ∧ (e = true → q = true) ∧ (sh = true → q = false) ∧ ((q = true ∨ sh = true) → fr < pos)
theorem strB_cut (s : ByteArray) (a b : Nat) : strB (cut s a b) = s.extract a b := by
  apply ByteArray.ext
  rw [← Array.toList_inj, cut_data]
  rfl
theorem ws_start (s : ByteArray) : WState s (wordsS s) [] 0 0 false false false := ⟨by unfold wordsS; rw [cut_self]; simp, by omega, by simp, by simp, by simp⟩
section
variable {s : ByteArray} {U : Option (List ByteArray)} {L : List ByteArray} {fr pos : Nat} {q e sh : Bool}
theorem ws_esc (h : WState s U L fr pos true true sh) (hp : pos < s.size) (hw : pos + (Utf8.decode s pos).2 ≤ s.size) (hw1 : 1 ≤ (Utf8.decode s pos).2) : WState s U L fr (pos + (Utf8.decode s pos).2) true false sh :=
  ⟨by rw [h.1, wl_esc s fr pos sh h.2.1 hp hw hw1], by have := h.2.1; omega, by simp, h.2.2.2.1, fun x => by have := h.2.2.2.2 (.inl rfl); omega⟩
theorem ws_bs (h : WState s U L fr pos true false sh) (hp : pos < s.size) (hr : (Utf8.decode s pos).1 = 92) : WState s U L fr (pos + (Utf8.decode s pos).2) true true sh := by
  obtain ⟨h1, h2⟩ := wl_bs s fr pos sh h.2.1 hp hr
  rw [h2]
  exact ⟨by rw [h.1, h1], by have := h.2.1; omega, by simp, h.2.2.2.1, fun x => by have := h.2.2.2.2 (.inl rfl); omega⟩
theorem ws_open (h : WState s U L fr fr false false sh) (hp : fr < s.size) (hr : (Utf8.decode s fr).1 = 34) : WState s U L fr (fr + (Utf8.decode s fr).2) true false false := by
  obtain ⟨h1, h2⟩ := wl_q s fr fr false sh (Nat.le_refl _) hp hr
  rw [h2]
  rw [if_pos rfl] at h1
  have hs : sh = false := by
    cases sh with
    | false => rfl
    | true => have := h.2.2.2.2 (.inr rfl); omega
  subst hs
  exact ⟨by rw [h.1, h1], by omega, by simp, by simp, fun _ => by omega⟩
theorem ws_close (h : WState s U L fr pos true false sh) (hp : pos < s.size) (hr : (Utf8.decode s pos).1 = 34) : WState s U L fr (pos + (Utf8.decode s pos).2) false false true := by
  obtain ⟨h1, h2⟩ := wl_q s fr pos true sh h.2.1 hp hr
  rw [h2]
  have hlt := h.2.2.2.2 (.inl rfl)
  rw [if_neg (by omega), if_pos rfl] at h1
  exact ⟨by rw [h.1, h1], by omega, by simp, by simp, fun _ => by omega⟩
theorem ws_in (h : WState s U L fr pos true false sh) (hp : pos < s.size) (hw : pos + (Utf8.decode s pos).2 ≤ s.size) (hr : (Utf8.decode s pos).1 ≠ 34) (hr2 : (Utf8.decode s pos).1 ≠ 92) : WState s U L fr (pos + (Utf8.decode s pos).2) true false sh :=
  ⟨by rw [h.1, wl_rune s fr pos true sh (fun _ => rfl) h.2.1 hp hw hr (.inr rfl) (.inl hr2)], by have := h.2.1; omega, by simp, h.2.2.2.1, fun x => by have := h.2.2.2.2 (.inl rfl); omega⟩
theorem ws_out (h : WState s U L fr pos false false false) (hp : pos < s.size) (hw : pos + (Utf8.decode s pos).2 ≤ s.size) (hr : (Utf8.decode s pos).1 ≠ 34) (hr2 : (Utf8.decode s pos).1 ≠ 32) : WState s U L fr (pos + (Utf8.decode s pos).2) false false false :=
  ⟨by rw [h.1, wl_rune s fr pos false false (by simp) h.2.1 hp hw hr (.inl hr2) (.inr rfl)], by have := h.2.1; omega, by simp, by simp, by simp⟩
theorem ws_blank (h : WState s U L fr pos false false sh) (hp : pos < s.size) (hlt : fr < pos) (hr : (Utf8.decode s pos).1 = 32) : WState s U (L ++ [s.extract fr pos]) (pos + 1) (pos + (Utf8.decode s pos).2) false false false := by
  obtain ⟨h1, h2⟩ := wl_b s fr pos sh h.2.1 hp hr
  rw [h2]
  rw [if_neg (by omega)] at h1
  refine ⟨?_, Nat.le_refl _, by simp, by simp, by simp⟩
  rw [h.1, h1, Option.map_map]
  congr 1
  funext ws
  simp [strB_cut]
theorem ws_bad_b (h : WState s U L fr fr false false sh) (hp : fr < s.size) (hr : (Utf8.decode s fr).1 = 32) : U = none := by
  obtain ⟨h1, h2⟩ := wl_b s fr fr sh (Nat.le_refl _) hp hr
  rw [h.1, h1, if_pos rfl]; rfl
theorem ws_bad_q (h : WState s U L fr pos false false sh) (hp : pos < s.size) (hlt : fr < pos) (hr : (Utf8.decode s pos).1 = 34) : U = none := by
  obtain ⟨h1, h2⟩ := wl_q s fr pos false sh h.2.1 hp hr
  rw [h.1, h1, if_neg (by omega), if_neg (by simp)]; rfl
theorem ws_bad_s (h : WState s U L fr pos false false true) (hp : pos < s.size) (hr : (Utf8.decode s pos).1 ≠ 32) : U = none := by
  rw [h.1, wl_sh s fr pos (h.2.2.2.2 (.inr rfl)) hp hr]; rfl
theorem ws_end (h : WState s U L fr pos q e sh) (hp : pos = s.size) : U = if q = true ∨ fr = s.size then none else some (L ++ [s.extract fr s.size]) := by
  rw [h.1, wl_end s fr pos q e sh h.2.1 hp, hp]
  by_cases hc : q = true ∨ fr = s.size
  · rw [if_pos hc, if_pos hc]; rfl
  · rw [if_neg hc, if_neg hc]; simp [strB_cut]
end
def script_Words.f (a0 : ByteArray) : Option (List ByteArray × Int) := if a0.size ≤ 1073741824 then some (match wordsS a0 with | some l => (l, 0) | none => ([], 270)) else none
def WordsPost (w : World) (U : Option (List ByteArray)) (e : Ending) (w' : World) : Prop := (∃ v, e = .returned (.tuple #[v, .int .i64 (if U.isSome = true then 0 else 270)]) ∧ Kd.R Kd.string 9 w' w.heap.size (fun _ => True) v (U.getD [])) ∧ Below w.heap.size w w'
theorem own_str {w : World} {base : Nat} {v : Value} {l : List ByteArray} (h : w.ownsRow base 9 1 v l.length (l.map .string)) : Kd.R Kd.string 9 w base (fun _ => True) v l := by
  refine ⟨fun _ _ => trivial, l.map .string, h, ?_, fun j p hj => ?_⟩
  · show _ = _ * 1
    simp
  · show ((l.map Value.string).drop (j * 1)).take 1 = [Value.string p]
    rw [Nat.mul_one]
    have hlt : j < l.length := by
      rcases Nat.lt_or_ge j l.length with h | h
      · exact h
      · rw [List.getElem?_eq_none h] at hj; cases hj
    rw [List.getElem?_eq_getElem hlt] at hj
    obtain rfl := Option.some.inj hj
    rw [List.drop_eq_getElem_cons (by simpa using hlt)]
    simp
set_option maxHeartbeats 8000000 in
set_option maxRecDepth 100000 in
theorem words_walk (s : ByteArray) (w : World) (hs : s.size ≤ 1073741824) :
    Calls Tryd.prog 12 #[.string s] w (WordsPost w (wordsS s)) := by
  obtain ⟨i0, hi, hz0, hz1, hz2⟩ := info_parts info_string
  have HW := Aside0.mk (ws_start s)
  generalize wordsS s = U at *
  go_enter Tryd.func12, Tryd.ntmps12
  go_wp2
  go_step3
  go_wp2
  go_step3
  go_wp2
  go_loopw [4, 5, 6, 7, 8, 9] (fun v4 v5 v6 v7 v8 v9 wr => ∃ (pos fr : Nat) (q e sh : Bool) (L : List ByteArray), v5 = .int .i64 (fr : Int) ∧ v6 = .bool q ∧ v7 = .bool e ∧ v8 = .bool sh ∧ v9 = .bool true ∧ wr.heap[w.heap.size]? = some (.stringIter s pos) ∧ pos ≤ s.size ∧ Aside0 (WState s U L fr pos q e sh) ∧ Aside0 (wr.ownsRow w.heap.size 9 1 v4 L.length (L.map .string)) ∧ L.length ≤ fr ∧ Aside0 (Below w.heap.size w wr)) (fun _ _ _ _ _ _ wr => s.size - wr.iterPos w.heap.size)
  case atStart => exact ⟨0, 0, false, false, false, [], rfl, rfl, rfl, rfl, rfl, iter_new w s, by omega, HW, ⟨World.ownsRow_nil _ _ _ _⟩, by simp, ⟨below_iter w s⟩⟩
  case round =>
    clear HW
    obtain ⟨pos, fr, q, e, sh, L, rfl, rfl, rfl, rfl, rfl, hit, hpl, HS, HO, hL, HB⟩ := hrel
    by_cases hp : pos < s.size
    · have hw1 := Lib.decode_width_pos s pos hp
      have hwl := width_le s pos hp
      have hnx := fun ty => Lib.run_next_any_at (P := Tryd.prog) wr w.heap.size s pos ty hit hp
      have HI := Aside0.mk (Lib.iterAt_heap wr w.heap.size s pos (pos + (Utf8.decode s pos).2) hit)
      have HBI := Aside0.mk (Lib.below_iterAt HB.out (Nat.le_refl _) s (pos + (Utf8.decode s pos).2))
      have HM0 := iter_less hw1 hit hp
      have HOI := Aside0.mk (row_iterAt HO.out hit (pos + (Utf8.decode s pos).2))
      have HMM : Aside0 (s.size - (pos + (Utf8.decode s pos).2) < s.size - wr.iterPos w.heap.size) := ⟨by rwa [iterPos_of HI.out] at HM0⟩
      have hfr := HS.out.2.1
      clear HM0 HO HB
      cases e with
      | true =>
        obtain rfl : q = true := HS.out.2.2.1 rfl
        have HN := Aside0.mk (ws_esc HS.out hp hwl.1 hw1)
        generalize hd : Utf8.decode s pos = d at *
        obtain ⟨r, wd⟩ := d
        simp only at *
        have hwl1 := hwl.1
        clear hd hwl HS hw1
        go_wp2
        go_roundw
        case rel => exact ⟨pos + wd, fr, true, false, sh, L, rfl, rfl, rfl, rfl, rfl, HI.out, hwl1, HN, HOI, hL, HBI⟩
        case measure => rw [iterPos_of HI.out]; exact HMM.out
      | false =>
      cases q with
      | true =>
        have hlt := HS.out.2.2.2.2 (.inl rfl)
        have N1 := Aside0.mk (fun h => ws_bs HS.out hp h)
        have N2 := Aside0.mk (fun h => ws_close HS.out hp h)
        have N3 := Aside0.mk (fun h h2 => ws_in HS.out hp hwl.1 h h2)
        generalize hd : Utf8.decode s pos = d at *
        obtain ⟨r, wd⟩ := d
        simp only at *
        have hwl1 := hwl.1
        clear hd hwl HS hw1
        by_cases h92 : r = 92
        · have HN := Aside0.mk (N1.out h92)
          have t1 : ((r : Int) == 92) = true := beq_iff_eq.2 (by omega)
          clear N1 N2 N3 h92
          go_wp2
          go_roundw
          case rel => exact ⟨pos + wd, fr, true, true, sh, L, rfl, rfl, rfl, rfl, rfl, HI.out, hwl1, HN, HOI, hL, HBI⟩
          case measure => rw [iterPos_of HI.out]; exact HMM.out
        · have t1 : ((r : Int) == 92) = false := beq_eq_false_iff_ne.2 (by omega)
          by_cases h34 : r = 34
          · have HN := Aside0.mk (N2.out h34)
            have t2 : ((r : Int) == 34) = true := beq_iff_eq.2 (by omega)
            have t3 : ((pos : Int) == (fr : Int)) = false := beq_eq_false_iff_ne.2 (by omega)
            clear N1 N2 N3 h92 h34
            go_wp2
            go_roundw
            case rel => exact ⟨pos + wd, fr, false, false, true, L, rfl, rfl, rfl, rfl, rfl, HI.out, hwl1, HN, HOI, hL, HBI⟩
            case measure => rw [iterPos_of HI.out]; exact HMM.out
          · have HN := Aside0.mk (N3.out h34 h92)
            have t2 : ((r : Int) == 34) = false := beq_eq_false_iff_ne.2 (by omega)
            clear N1 N2 N3 h92 h34
            go_wp2
            go_roundw
            case rel => exact ⟨pos + wd, fr, true, false, sh, L, rfl, rfl, rfl, rfl, rfl, HI.out, hwl1, HN, HOI, hL, HBI⟩
            case measure => rw [iterPos_of HI.out]; exact HMM.out
      | false =>
      by_cases hlt : fr < pos
      · have t3 : ((pos : Int) == (fr : Int)) = false := beq_eq_false_iff_ne.2 (by omega)
        have t4 : decide ((fr : Int) < (pos : Int)) = true := decide_eq_true (by omega)
        have N1 := Aside0.mk (fun h => ws_bad_q HS.out hp hlt h)
        have N2 := Aside0.mk (fun h => ws_blank HS.out hp hlt h)
        cases sh with
        | true =>
          have N3 := Aside0.mk (fun h => ws_bad_s HS.out hp h)
          generalize hd : Utf8.decode s pos = d at *
          obtain ⟨r, wd⟩ := d
          simp only at *
          have hwl1 := hwl.1
          clear hd hwl HS hw1
          by_cases h34 : r = 34
          · have t2 : ((r : Int) == 34) = true := beq_iff_eq.2 (by omega)
            have t5 : ((r : Int) == 32) = false := beq_eq_false_iff_ne.2 (by omega)
            obtain rfl := N1.out h34
            go_wp2
            try rw [Exit.noGoto_ret]
            go_ret2
            exact ⟨⟨_, rfl, Kd.R_nil _ _ _ _ _⟩, HBI.out⟩
          · have t2 : ((r : Int) == 34) = false := beq_eq_false_iff_ne.2 (by omega)
            by_cases h32 : r = 32
            · have t5 : ((r : Int) == 32) = true := beq_iff_eq.2 (by omega)
              have HN := Aside0.mk (N2.out h32)
              clear N1 N2 N3 h32 h34
              go_wp2_with (first
                | (at_builtin
                   refine wpList_append_own _ rfl _ _ 25 rfl w.heap.size 9 i0 _ 1 16 Tryd.underlying25 hi hz0 hz1 hz2 rfl (by decide) _ _ _ rfl (HOI.out.alloc _) ⟨(wr.iterAt w.heap.size s (pos + wd)).heap.size, 0, none⟩ 1 1 [.string (s.extract fr pos)] rfl rfl (World.news_of_block (cs := #[.string (s.extract fr pos)]) (t := 9) (fr := (0, 0)) (heap_alloc_new _ _)) (by simp [Value.oneCell']) (by simp only [maxLen]; omega) (by omega) (by have hz9 := HBI.out.size; simp; omega) ?_
                   intro v3 w3 hown3 hg3 hx3
                   clear hx3
                   have HI3 := Aside0.mk (iter_grown (HOI.out.alloc _) hg3 (iter_alloc HI.out _))
                   have HB3 := Aside0.mk ((HBI.out.alloc HBI.out.size _).grown hg3 (by have hz9 := HBI.out.size; simp; omega) (fun k hk => own_base HOI.out k hk))
                   have HO3 := Aside0.mk hown3
                   clear hown3 hg3))
              go_roundw
              case rel => exact ⟨pos + wd, pos + 1, false, false, false, L ++ [s.extract fr pos], by go_num, rfl, rfl, rfl, rfl, HI3.out, hwl1, ⟨HN.out⟩, ⟨by simpa using HO3.out⟩, by simp; omega, HB3⟩
              case measure => rw [iterPos_of HI3.out]; exact HMM.out
            · have t5 : ((r : Int) == 32) = false := beq_eq_false_iff_ne.2 (by omega)
              obtain rfl := N3.out h32
              go_wp2
              try rw [Exit.noGoto_ret]
              go_ret2
              exact ⟨⟨_, rfl, Kd.R_nil _ _ _ _ _⟩, HBI.out⟩
        | false =>
          have N3 := Aside0.mk (fun h h2 => ws_out HS.out hp hwl.1 h h2)
          generalize hd : Utf8.decode s pos = d at *
          obtain ⟨r, wd⟩ := d
          simp only at *
          have hwl1 := hwl.1
          clear hd hwl HS hw1
          by_cases h34 : r = 34
          · have t2 : ((r : Int) == 34) = true := beq_iff_eq.2 (by omega)
            have t5 : ((r : Int) == 32) = false := beq_eq_false_iff_ne.2 (by omega)
            obtain rfl := N1.out h34
            go_wp2
            try rw [Exit.noGoto_ret]
            go_ret2
            exact ⟨⟨_, rfl, Kd.R_nil _ _ _ _ _⟩, HBI.out⟩
          · have t2 : ((r : Int) == 34) = false := beq_eq_false_iff_ne.2 (by omega)
            by_cases h32 : r = 32
            · have t5 : ((r : Int) == 32) = true := beq_iff_eq.2 (by omega)
              have HN := Aside0.mk (N2.out h32)
              clear N1 N2 N3 h32 h34
              go_wp2_with (first
                | (at_builtin
                   refine wpList_append_own _ rfl _ _ 25 rfl w.heap.size 9 i0 _ 1 16 Tryd.underlying25 hi hz0 hz1 hz2 rfl (by decide) _ _ _ rfl (HOI.out.alloc _) ⟨(wr.iterAt w.heap.size s (pos + wd)).heap.size, 0, none⟩ 1 1 [.string (s.extract fr pos)] rfl rfl (World.news_of_block (cs := #[.string (s.extract fr pos)]) (t := 9) (fr := (0, 0)) (heap_alloc_new _ _)) (by simp [Value.oneCell']) (by simp only [maxLen]; omega) (by omega) (by have hz9 := HBI.out.size; simp; omega) ?_
                   intro v3 w3 hown3 hg3 hx3
                   clear hx3
                   have HI3 := Aside0.mk (iter_grown (HOI.out.alloc _) hg3 (iter_alloc HI.out _))
                   have HB3 := Aside0.mk ((HBI.out.alloc HBI.out.size _).grown hg3 (by have hz9 := HBI.out.size; simp; omega) (fun k hk => own_base HOI.out k hk))
                   have HO3 := Aside0.mk hown3
                   clear hown3 hg3))
              go_roundw
              case rel => exact ⟨pos + wd, pos + 1, false, false, false, L ++ [s.extract fr pos], by go_num, rfl, rfl, rfl, rfl, HI3.out, hwl1, ⟨HN.out⟩, ⟨by simpa using HO3.out⟩, by simp; omega, HB3⟩
              case measure => rw [iterPos_of HI3.out]; exact HMM.out
            · have t5 : ((r : Int) == 32) = false := beq_eq_false_iff_ne.2 (by omega)
              have HN := Aside0.mk (N3.out h34 h32)
              clear N1 N2 N3 h32 h34
              go_wp2
              go_roundw
              case rel => exact ⟨pos + wd, fr, false, false, false, L, rfl, rfl, rfl, rfl, rfl, HI.out, hwl1, HN, HOI, hL, HBI⟩
              case measure => rw [iterPos_of HI.out]; exact HMM.out
      · obtain rfl : fr = pos := by omega
        have t3 : ((fr : Int) == (fr : Int)) = true := beq_iff_eq.2 rfl
        have t4 : decide ((fr : Int) < (fr : Int)) = false := decide_eq_false (by omega)
        obtain rfl : sh = false := by
          cases sh with
          | false => rfl
          | true => exact absurd (HS.out.2.2.2.2 (.inr rfl)) hlt
        have N1 := Aside0.mk (fun h => ws_open HS.out hp h)
        have N2 := Aside0.mk (fun h => ws_bad_b HS.out hp h)
        have N3 := Aside0.mk (fun h h2 => ws_out HS.out hp hwl.1 h h2)
        generalize hd : Utf8.decode s fr = d at *
        obtain ⟨r, wd⟩ := d
        simp only at *
        have hwl1 := hwl.1
        clear hd hwl HS hw1
        by_cases h34 : r = 34
        · have t2 : ((r : Int) == 34) = true := beq_iff_eq.2 (by omega)
          have HN := Aside0.mk (N1.out h34)
          clear N1 N2 N3 h34 hlt hfr
          go_wp2
          go_roundw
          case rel => exact ⟨fr + wd, fr, true, false, false, L, rfl, rfl, rfl, rfl, rfl, HI.out, hwl1, HN, HOI, hL, HBI⟩
          case measure => rw [iterPos_of HI.out]; exact HMM.out
        · have t2 : ((r : Int) == 34) = false := beq_eq_false_iff_ne.2 (by omega)
          by_cases h32 : r = 32
          · have t5 : ((r : Int) == 32) = true := beq_iff_eq.2 (by omega)
            obtain rfl := N2.out h32
            go_wp2
            try rw [Exit.noGoto_ret]
            go_ret2
            exact ⟨⟨_, rfl, Kd.R_nil _ _ _ _ _⟩, HBI.out⟩
          · have t5 : ((r : Int) == 32) = false := beq_eq_false_iff_ne.2 (by omega)
            have HN := Aside0.mk (N3.out h34 h32)
            clear N1 N2 N3 h32 h34 hlt hfr
            go_wp2
            go_roundw
            case rel => exact ⟨fr + wd, fr, false, false, false, L, rfl, rfl, rfl, rfl, rfl, HI.out, hwl1, HN, HOI, hL, HBI⟩
            case measure => rw [iterPos_of HI.out]; exact HMM.out
    · have hnx := fun ty => Lib.run_next_end_at (P := Tryd.prog) wr w.heap.size s pos ty hit hp
      have hU := ws_end HS.out (by omega)
      have hfr := HS.out.2.1
      have HBI := HB
      clear HS HB
      cases q with
      | true =>
        rw [if_pos (.inl rfl)] at hU
        obtain rfl := hU
        go_wp2
        try rw [Exit.noGoto_ret]
        go_ret2
        exact ⟨⟨_, rfl, Kd.R_nil _ _ _ _ _⟩, HBI.out⟩
      | false =>
        by_cases hf : fr = s.size
        · rw [if_pos (.inr hf)] at hU
          obtain rfl := hU
          have t3 : ((fr : Int) == (s.size : Int)) = true := beq_iff_eq.2 (by omega)
          clear hf
          go_wp2
          try rw [Exit.noGoto_ret]
          go_ret2
          exact ⟨⟨_, rfl, Kd.R_nil _ _ _ _ _⟩, HBI.out⟩
        · rw [if_neg (by simp [hf])] at hU
          obtain rfl := hU
          have t3 : ((fr : Int) == (s.size : Int)) = false := beq_eq_false_iff_ne.2 (by omega)
          clear hf
          go_wp2_with (first
            | (at_builtin
               refine wpList_append_own _ rfl _ _ 25 rfl w.heap.size 9 i0 _ 1 16 Tryd.underlying25 hi hz0 hz1 hz2 rfl (by decide) _ _ _ rfl (HO.out.alloc _) ⟨wr.heap.size, 0, none⟩ 1 1 [.string (s.extract fr s.size)] rfl rfl (World.news_of_block (cs := #[.string (s.extract fr s.size)]) (t := 9) (fr := (0, 0)) (heap_alloc_new _ _)) (by simp [Value.oneCell']) (by simp only [maxLen]; omega) (by omega) (by have hz9 := HBI.out.size; simp; omega) ?_
               intro v3 w3 hown3 hg3 hx3
               clear hx3
               have HB3 := Aside0.mk ((HBI.out.alloc HBI.out.size _).grown hg3 (by have hz9 := HBI.out.size; simp; omega) (fun k hk => own_base HO.out k hk))
               have HO3 := Aside0.mk hown3
               clear hown3 hg3))
          try rw [Exit.noGoto_ret]
          go_ret2
          exact ⟨⟨_, rfl, own_str (by simpa using HO3.out)⟩, HB3.out⟩
theorem script_Words.calls (a0 : ByteArray) (r1 : List ByteArray) (r2 : Int) (w : World) (h : script_Words.f a0 = some (r1, r2)) :
    Calls Tryd.prog 12 #[.string a0] w fun e w' => ∃ v0_ : Value, e = .returned (.tuple #[v0_, .int .i64 r2]) ∧ Kd.R Kd.string 9 w' w.heap.size (fun _ => True) v0_ r1 ∧ Below w.heap.size w w' := by
  unfold script_Words.f at h
  by_cases h0 : a0.size ≤ 1073741824
  · rw [if_pos h0] at h
    refine (words_walk a0 w h0).mono ?_
    rintro e w' ⟨⟨v, he, hv⟩, hb⟩
    cases hU : wordsS a0 with
    | none =>
      rw [hU] at h he hv
      simp only [Option.some.injEq, Prod.mk.injEq] at h
      obtain ⟨rfl, rfl⟩ := h
      exact ⟨v, he, hv, hb⟩
    | some l =>
      rw [hU] at h he hv
      simp only [Option.some.injEq, Prod.mk.injEq] at h
      obtain ⟨rfl, rfl⟩ := h
      exact ⟨v, he, hv, hb⟩
  · rw [if_neg h0] at h; cases h
end Go.Proofs.YtpdinahdcedmkaaDoor.Ext
