/- the document's Runes: the runes of a text. -/
import Derived.Test.YtpdinahdcedmkaaDoorSPut
namespace Go.Proofs.YtpdinahdcedmkaaDoor.Ext
set_option linter.unusedVariables false
set_option linter.unusedSimpArgs false
open Go.RowKit Go.Proofs.YtpdinahdcedmkaaDoorW.PrintWords Go.Proofs.YtpdinahdcedmkaaDoorW.PrintLast Go.Proofs.YtpdinahdcedmkaaDoorW.PrintMore

def runeL (l : List (Nat × Nat × Nat)) : List Int := l.map fun x => (x.2.1 : Int)
theorem own_int {w : World} {base : Nat} {v : Value} {k : IntKind} {e : Nat} {l : List Int} (h : w.ownsRow base e 1 v l.length (nums k l)) : Kd.R (Kd.int k) e w base (fun _ => True) v l := by
  refine ⟨fun _ _ => trivial, nums k l, h, ?_, fun j p hj => ?_⟩
  · show _ = _ * 1
    simp [nums]
  · show ((nums k l).drop (j * 1)).take 1 = [Value.int k p]
    rw [Nat.mul_one]
    have hlt : j < l.length := by
      rcases Nat.lt_or_ge j l.length with h | h
      · exact h
      · rw [List.getElem?_eq_none h] at hj; cases hj
    rw [List.getElem?_eq_getElem hlt] at hj
    obtain rfl := Option.some.inj hj
    rw [List.drop_eq_getElem_cons (by simpa [nums] using hlt)]
    simp [nums]
theorem info_i32 : (Tryd.prog.info? 21).map (fun i => (i.zero, i.size, i.bytes)) = some (some (.int .i32 0), 1, 4) := by kernel_rfl
def RunesPost (w : World) (l : List Int) (e : Ending) (w' : World) : Prop := ∃ v, e = .returned v ∧ Kd.R (Kd.int .i32) 21 w' w.heap.size (fun _ => True) v l ∧ Below w.heap.size w w'
set_option maxHeartbeats 4000000 in
set_option maxRecDepth 100000 in
theorem rrunes_walk (T : ByteArray) (w : World) (hz : T.size ≤ 1073741824) :
    Calls Tryd.prog 20 #[.string T] w (RunesPost w (runeL (runesOf T))) := by
  obtain ⟨i0, hi, hz0, hz1, hz2⟩ := info_parts info_i32
  have HPK := Aside0.mk (show runeL (runesOf T) = runeL (runesOf T) from rfl)
  generalize hU : runeL (runesOf T) = U at *
  replace HPK := Aside0.mk hU
  clear hU
  go_enter Tryd.func20, Tryd.ntmps20
  go_wp2
  go_loopw [3] (fun v3 wr => ∃ (pos fuel : Nat) (L : List Int), wr.heap[w.heap.size + 1]? = some (.stringIter T pos) ∧ Aside0 (wr.ownsRow w.heap.size 21 1 v3 L.length (nums .i32 L)) ∧ Aside0 (L ++ runeL (rns T fuel pos) = runeL (runesOf T) ∧ T.size ≤ pos + fuel ∧ pos ≤ T.size) ∧ L.length ≤ pos ∧ Aside0 (Below w.heap.size w wr)) (fun _ wr => T.size - wr.iterPos (w.heap.size + 1))
  case atStart =>
    refine ⟨0, T.size, [], ?_, ⟨?_⟩, ⟨rfl, by omega, by omega⟩, by simp, ⟨((Below.refl _ _).alloc (Nat.le_refl _) _).alloc (by simp) _⟩⟩
    · have := iter_new (w.alloc (.cells #[] 21)) T
      simpa using this
    · exact (World.ownsRow_lit (base := w.heap.size) (e := 21) (size := 1) w #[] 0 (Nat.le_refl _) (by simp [maxLen]) (by simp)).alloc _
  case round =>
    obtain ⟨pos, fuel, L, hit, HO, HL, hLp, HB⟩ := hrel
    by_cases hp : pos < T.size
    · have hw1 := Lib.decode_width_pos T pos hp
      have hwl := width_le T pos hp
      have hnx := fun ty => Lib.run_next_any_at (P := Tryd.prog) wr (w.heap.size + 1) T pos ty hit hp
      obtain ⟨f2, hf2, he2⟩ := rns_step T fuel pos hp HL.out.2.1
      have HI := Aside0.mk (Lib.iterAt_heap wr (w.heap.size + 1) T pos (pos + (Utf8.decode T pos).2) hit)
      have HM0 := iter_less hw1 hit hp
      have HMM : Aside0 (T.size - (pos + (Utf8.decode T pos).2) < T.size - wr.iterPos (w.heap.size + 1)) := ⟨by rwa [iterPos_of HI.out] at HM0⟩
      have HOI := Aside0.mk (row_iterAt HO.out hit (pos + (Utf8.decode T pos).2))
      have HBI := Aside0.mk (Lib.below_iterAt HB.out (show w.heap.size ≤ w.heap.size + 1 by omega) T (pos + (Utf8.decode T pos).2))
      have HL2 : Aside0 ((L ++ [((Utf8.decode T pos).1 : Int)]) ++ runeL (rns T f2 (pos + (Utf8.decode T pos).2)) = runeL (runesOf T)) := ⟨by have := HL.out.1; rw [he2] at this; simpa [runeL] using this⟩
      clear HM0 HO HB HL he2
      generalize hd : Utf8.decode T pos = d at *
      obtain ⟨r, wd⟩ := d
      simp only at *
      have hwl1 := hwl.1
      have HF := Aside0.mk hf2
      have hgi := HBI.out.size
      clear hd hf2
      generalize hWI : wr.iterAt (w.heap.size + 1) T (pos + wd) = wi at *
      go_wp2_with (first
        | (at_builtin
           refine wpList_append_own _ rfl _ _ 51 rfl w.heap.size 21 i0 _ 1 4 Tryd.underlying51 hi hz0 hz1 hz2 rfl (by decide) _ _ _ rfl (HOI.out.alloc _) ⟨wi.heap.size, 0, none⟩ 1 1 [.int .i32 (r : Int)] rfl rfl (World.news_of_block (cs := #[.int .i32 (r : Int)]) (t := 21) (fr := (0, 0)) (heap_alloc_new _ _)) (by simp [Value.oneCell']) (by simp only [maxLen]; omega) (by omega) (by simp; omega) ?_
           intro v3 w3 hown3 hg3 hx3
           clear hx3
           have HI3 := Aside0.mk (iter_grown (HOI.out.alloc _) hg3 (iter_alloc HI.out _))
           have HB3 := Aside0.mk ((HBI.out.alloc HBI.out.size _).grown hg3 (by have hz9 := HBI.out.size; simp; omega) (fun k hk => own_base HOI.out k hk))
           have HO3 := Aside0.mk hown3
           clear hown3 hg3))
      go_roundw
      case rel => exact ⟨pos + wd, f2, L ++ [(r : Int)], HI3.out, ⟨by simpa [nums] using HO3.out⟩, ⟨HL2.out, HF.out, hwl1⟩, by simp; omega, HB3⟩
      case measure => rw [iterPos_of HI3.out]; exact HMM.out
    · have hnx := fun ty => Lib.run_next_end_at (P := Tryd.prog) wr (w.heap.size + 1) T pos ty hit hp
      obtain rfl : L = U := by have := HL.out.1; rw [rns_end T fuel pos hp] at this; rw [← HPK.out, ← this]; simp [runeL]
      go_wp2
      go_ret
      exact ⟨_, rfl, own_int HO.out, HB.out⟩
def liveryref01_Runes.f (a0 : ByteArray) : Option (List Int) := if a0.size ≤ 1073741824 then some (runeL (runesOf a0)) else none
theorem liveryref01_Runes.calls (a0 : ByteArray) (r : List Int) (w : World) (h : liveryref01_Runes.f a0 = some r) :
    Calls Tryd.prog 20 #[.string a0] w fun e w' => ∃ v0_ : Value, e = .returned v0_ ∧ Kd.R (Kd.int .i32) 21 w' w.heap.size (fun _ => True) v0_ r ∧ Below w.heap.size w w' := by
  unfold liveryref01_Runes.f at h
  by_cases h0 : a0.size ≤ 1073741824
  · rw [if_pos h0] at h
    obtain rfl := Option.some.inj h
    exact rrunes_walk a0 w h0
  · rw [if_neg h0] at h; cases h
end Go.Proofs.YtpdinahdcedmkaaDoor.Ext
