import Derived.Test.YtpdinahdcedmkaaDoorMRHead
import Derived.Test.YtpdinahdcedmkaaDoorMLab
import Derived.Test.YtpdinahdcedmkaaDoorMUnq
import Derived.Test.YtpdinahdcedmkaaDoorMHex
import Derived.Lib.MapLaws
import Derived.Laws.Cover4
import Derived.Test.YtpdinahdcedmkaaDoorMSayS
import Derived.Test.YtpdinahdcedmkaaDoorMCod
import Derived.Test.YtpdinahdcedmkaaDoorMSay
import Derived.Test.YtpdinahdcedmkaaDoorMPure
/- The document's Quote: the text in quotes, just as octet.Quote gives it. -/
namespace Go.Proofs.YtpdinahdcedmkaaDoor.Ext
set_option linter.unusedVariables false
set_option linter.unusedSimpArgs false
open Go.RowKit Go.Proofs.YtpdinahdcedmkaaDoorW.PrintWords Go.Proofs.YtpdinahdcedmkaaDoorW.PrintLast Go.Proofs.YtpdinahdcedmkaaDoorW.PrintMore

end Go.Proofs.YtpdinahdcedmkaaDoor.Ext
/- The document's text: what a line has of a letter. -/
namespace Go.Proofs.YtpdinahdcedmkaaDoor.Ext
open Go.Proofs.YtpdinahdcedmkaaDoor.P
set_option linter.unusedVariables false
set_option linter.unusedSimpArgs false
open Go.RowKit Go.Proofs.YtpdinahdcedmkaaDoorW.PrintWords Go.Proofs.YtpdinahdcedmkaaDoorW.PrintLast Go.Proofs.YtpdinahdcedmkaaDoorW.PrintMore Go.Proofs.YtpdinahdcedmkaaDoor.Spec

end Go.Proofs.YtpdinahdcedmkaaDoor.Ext
/- What a line has of any letter; an act's line, on both sides. -/
namespace Go.Proofs.YtpdinahdcedmkaaDoor.Ext
open Go.Proofs.YtpdinahdcedmkaaDoor.P
set_option linter.unusedVariables false
set_option linter.unusedSimpArgs false
open Go.RowKit Go.Proofs.YtpdinahdcedmkaaDoorW.PrintWords Go.Proofs.YtpdinahdcedmkaaDoorW.PrintLast Go.Proofs.YtpdinahdcedmkaaDoorW.PrintMore Go.Proofs.YtpdinahdcedmkaaDoor.Spec

theorem say_w (l : List ByteArray) (x : Act) : sayB l x (((119 : UInt8).toNat : Nat) : Int) = strOfNums (hexS x.f10) := by unfold sayB; simp
theorem say_m (l : List ByteArray) (x : Act) : sayB l x (((109 : UInt8).toNat : Nat) : Int) = quoteS (strOfNums x.f10) := by unfold sayB; simp
theorem say_x (l : List ByteArray) (x : Act) : sayB l x (((120 : UInt8).toNat : Nat) : Int) = strOfNums (hexS x.f10) := by unfold sayB; simp
theorem say_b (l : List ByteArray) (x : Act) : sayB l x (((98 : UInt8).toNat : Nat) : Int) = decS (IntKind.u64.wrap x.f9) := by unfold sayB; simp
theorem say_n (l : List ByteArray) (x : Act) : sayB l x (((110 : UInt8).toNat : Nat) : Int) = decS (IntKind.u64.wrap x.f9) := by unfold sayB; simp
theorem say_s (l : List ByteArray) (x : Act) : sayB l x (((115 : UInt8).toNat : Nat) : Int) = setsB x := by unfold sayB; simp
theorem say_d (l : List ByteArray) (x : Act) : sayB l x (((100 : UInt8).toNat : Nat) : Int) = quoteS (l.getD x.f1.toNat ByteArray.empty) := by unfold sayB; simp
theorem say_t (l : List ByteArray) (x : Act) : sayB l x (((116 : UInt8).toNat : Nat) : Int) = quoteS (l.getD x.f2.toNat ByteArray.empty) := by unfold sayB; simp
theorem say_k (l : List ByteArray) (x : Act) : sayB l x (((107 : UInt8).toNat : Nat) : Int) = decS (IntKind.u64.wrap x.f6) := by unfold sayB; simp
theorem say_i (l : List ByteArray) (x : Act) : sayB l x (((105 : UInt8).toNat : Nat) : Int) = decS (IntKind.u64.wrap x.f7) := by unfold sayB; simp
theorem say_r (l : List ByteArray) (x : Act) : sayB l x (((114 : UInt8).toNat : Nat) : Int) = (decS x.f8.f0 ++ ⟨#[32]⟩) ++ decS x.f8.f1 := by unfold sayB; simp
theorem say_p (l : List ByteArray) (x : Act) : sayB l x (((112 : UInt8).toNat : Nat) : Int) = pickS x.f11 := by unfold sayB; simp
theorem c_said (p : Plan) (x : Act) (cp cs : List Value) (w : World) (hP : k33.K w p cp) (hK : k42.K w x cs) (h : SayOk p.f2 x) (hT : Lib.Utf8Tabs 0 1 w) (c : UInt8) (hc : c ∈ lets) :
    Calls Tryd.prog 37 #[.agg cp.toArray, .agg cs.toArray, .int .i32 ((c.toNat : Nat) : Int)] w (StrB (sayB p.f2 x ((c.toNat : Nat) : Int)) w) := by
  have hz : (strOfNums x.f10).size ≤ 1048576 := by rw [strOfNums_size]; exact h.dl
  unfold lets at hc
  simp only [List.mem_cons, List.not_mem_nil, or_false] at hc
  rcases hc with rfl | rfl | rfl | rfl | rfl | rfl | rfl | rfl | rfl | rfl | rfl | rfl
  · rw [say_w]
    exact said_w p x cp cs w hP hK h.by_ h.dl
  · rw [say_m]
    exact said_m p x cp cs w hP hK (Nat.le_trans hz (by omega)) hT
  · rw [say_x]
    exact said_x p x cp cs w hP hK h.by_ h.dl
  · rw [say_b]
    exact said_b p x cp cs w hP hK
  · rw [say_n]
    exact said_n p x cp cs w hP hK
  · rw [say_s]
    exact said_s p x cp cs w hP hK h.bd h.ll
  · rw [say_d]
    exact said_d p x cp cs w hP hK h.d.1 h.d.2 (Nat.le_trans (h.nm _) (by omega)) hT
  · rw [say_t]
    exact said_t p x cp cs w hP hK h.t.1 h.t.2 (Nat.le_trans (h.nm _) (by omega)) hT
  · rw [say_k]
    exact said_k p x cp cs w hP hK
  · rw [say_i]
    exact said_i p x cp cs w hP hK
  · rw [say_r]
    exact said_r p x cp cs w hP hK h.lo.1 h.lo.2 h.hi.1 h.hi.2
  · rw [say_p]
    exact said_p p x cp cs w hP hK h.pk
theorem Bx.iter {w W : World} {g : Nat} {cs : List Value} {t : TypeId} (h : Bx w W g cs t) {k pos : Nat} {s : ByteArray} (hk : W.heap[k]? = some (.stringIter s pos)) (hge : w.heap.size ≤ k) (q : Nat) : Bx w (W.iterAt k s q) g cs t :=
  ⟨(Lib.iterAt_other W k g s q (by rintro rfl; rw [h.row] at hk; cases hk)).trans h.row, Lib.below_iterAt h.hb hge s q⟩
theorem HX.iter {w W : World} {tp ta : TypeId} {pb xb : Nat} {p0 p1 p2 p3 c0 c1 c2 c3 c4 c5 c6 c7 c8 c9 c10 c11 c12 : Value} (h : HX w tp ta pb xb p0 p1 p2 p3 c0 c1 c2 c3 c4 c5 c6 c7 c8 c9 c10 c11 c12 W) {k pos : Nat} {s : ByteArray} (hk : W.heap[k]? = some (.stringIter s pos)) (hge : w.heap.size ≤ k) (q : Nat) : HX w tp ta pb xb p0 p1 p2 p3 c0 c1 c2 c3 c4 c5 c6 c7 c8 c9 c10 c11 c12 (W.iterAt k s q) :=
  hx_mk (h.p.iter hk hge q) (h.x.iter hk hge q)
/-- a string's and an error's contract -/
def StrE (s : ByteArray) (n : Int) (w : World) : Ending → World → Prop := fun e w' => e = .returned (.tuple #[.string s, .int .i64 n]) ∧ Below w.heap.size w w'
set_option maxHeartbeats 8000000 in
set_option maxRecDepth 100000 in
theorem c_line (p : Plan) (x : Act) (cp cs : List Value) (w : World) (hP : k33.K w p cp) (hK : k42.K w x cs) (h : SayOk p.f2 x) (hT : Lib.Utf8Tabs 0 1 w) :
    Calls Tryd.prog 25 #[.agg cp.toArray, .agg cs.toArray] w (StrB (lineB p.f2 x) w) := by
  have cn := Lib.hid (c_SName x.f0)
  have ch := Lib.hid (c_Has x.f0)
  have ca := Lib.hid (row_ascii x.f0)
  have cl := Lib.hid (row_lets x.f0)
  have hrz := row_sizes x.f0
  have hnz : (rowOf x.f0).1.size ≤ 20 + 1073741825 * 0 := hrz.2
  have cz := Lib.hid (sayB_size h)
  have cW := Lib.hid (fun W (hW : Below w.heap.size w W) c hc => c_said p x cp cs W (k33.K_below hW hP) (k42.K_below hW hK) h (Utf8Tabs_below hT hW) c hc)
  have P0 := Aside0.mk ((Bx.new w cp 33).push (.cells cs.toArray 42))
  have X0 := Aside0.mk ((Bx.new w cp 33).on cs 42 |>.at_ (show _ = w.heap.size + 1 by simp))
  obtain ⟨R, hR⟩ : ∃ R, lineB p.f2 x = R := ⟨_, rfl⟩
  rw [hR]
  unfold lineB at hR
  have HR := Lib.hid hR
  obtain ⟨A4, c4, A11, c11, A12, c12, rfl, l4, g4, l11, g11, l12, g12⟩ := k42_open hK
  obtain ⟨B2, d2, B3, d3, rfl, m2, e2, m3, e3⟩ := k33_open hP
  have HZ := Aside0.mk (hx_mk P0.out X0.out)
  clear P0 X0 hP hK g4 g11 g12 l4 l11 l12 m2 e2 m3 e3 hR h hT
  generalize (rowOf x.f0).1 = nm at *
  generalize (rowOf x.f0).2 = hs at *
  have q0 := HZ.out.x.c 0
  have q1 := HZ.out.x.c 1
  have q2 := HZ.out.x.c 2
  have q3 := HZ.out.x.c 3
  have q4 := HZ.out.x.c 4
  have q5 := HZ.out.x.c 5
  have q6 := HZ.out.x.c 6
  have q7 := HZ.out.x.c 7
  have q8 := HZ.out.x.c 8
  have q9 := HZ.out.x.c 9
  have q10 := HZ.out.x.c 10
  have q11 := HZ.out.x.c 11
  have q12 := HZ.out.x.c 12
  have r0 := HZ.out.p.c 0
  have r1 := HZ.out.p.c 1
  have r2 := HZ.out.p.c 2
  have r3 := HZ.out.p.c 3
  go_enter Tryd.func25, Tryd.ntmps25
  go_wp2_with (first
    | (go_at_call 10
       with_reducible refine (cn.out _).mono ?_
       rintro e v1 ⟨rfl, hbz⟩
       replace HZ := Aside0.mk (HZ.out.next hbz)
       clear hbz
       have q0 := HZ.out.x.c 0
       have q1 := HZ.out.x.c 1
       have q2 := HZ.out.x.c 2
       have q3 := HZ.out.x.c 3
       have q4 := HZ.out.x.c 4
       have q5 := HZ.out.x.c 5
       have q6 := HZ.out.x.c 6
       have q7 := HZ.out.x.c 7
       have q8 := HZ.out.x.c 8
       have q9 := HZ.out.x.c 9
       have q10 := HZ.out.x.c 10
       have q11 := HZ.out.x.c 11
       have q12 := HZ.out.x.c 12
       have r0 := HZ.out.p.c 0
       have r1 := HZ.out.p.c 1
       have r2 := HZ.out.p.c 2
       have r3 := HZ.out.p.c 3)
    | (go_at_call 8
       with_reducible refine (ch.out _).mono ?_
       rintro e v2 ⟨rfl, hbz⟩
       have HZ2 := Aside0.mk (HZ.out.next hbz)
       clear hbz)
    | fail)
  go_loopw [5] (fun v5 wr => ∃ (pos : Nat) (acc : ByteArray), pos ≤ hs.size ∧ v5 = .string acc ∧ acc.size ≤ 20 + 1073741825 * pos ∧ wr.heap[v2.heap.size]? = some (.stringIter hs pos) ∧ Aside0 ((hs.data.toList.drop pos).foldl (lineF p.f2 x) acc = R) ∧ Aside0 (HX w 33 42 w.heap.size (w.heap.size + 1) (.int .i64 p.f0) (.int .i64 p.f1) (.slice B2 p.f2.length d2) (.slice B3 p.f3.length d3) (.int .i64 x.f0) (.int .i64 x.f1) (.int .i64 x.f2) (.int .i64 x.f3) (.slice A4 x.f4.length c4) (.int .u32 x.f5) (.int .u32 x.f6) (.int .u32 x.f7) (.int .u64 x.f8.f0) (.int .u64 x.f8.f1) (.int .i64 x.f9) (.slice A11 x.f10.length c11) (.slice A12 x.f11.length c12) wr)) (fun _ wr => hs.size - wr.iterPos v2.heap.size)
  case atStart => exact ⟨0, nm, by omega, rfl, hnz, iter_new v2 hs, ⟨HR.out⟩, ⟨HZ2.out.next ((Below.refl _ _).alloc (Nat.le_refl _) _)⟩⟩
  case round =>
    have hge : w.heap.size ≤ v2.heap.size := HZ2.out.x.hb.size
    clear HZ HZ2 q0 q1 q2 q3 q4 q5 q6 q7 q8 q9 q10 q11 q12 r0 r1 r2 r3
    obtain ⟨pos, acc, hpl, rfl, hac, hit, HG, HZ⟩ := hrel
    by_cases hp : pos < hs.size
    · have hnx := fun ty => Lib.run_next_ascii_at (P := Tryd.prog) wr v2.heap.size hs pos ty hit hp (ca.out pos hp)
      have HG1 := HG.out
      rw [row_drop hs pos hp, List.foldl_cons] at HG1
      have hmem : hs[pos] ∈ lets := cl.out _ (by rw [List.mem_iff_getElem]; exact ⟨pos, by rw [Array.length_toList]; exact hp, rfl⟩)
      have cS := Lib.hid (fun W (hW : Below w.heap.size w W) => cW.out W hW hs[pos] hmem)
      have hz := cz.out ((hs[pos].toNat : Nat) : Int)
      unfold lineF at HG1
      have HI := Aside0.mk (Lib.iterAt_heap wr v2.heap.size hs pos (pos + 1) hit)
      replace HZ := Aside0.mk (HZ.out.iter hit hge (pos + 1))
      have HMM : Aside0 (hs.size - (pos + 1) < hs.size - wr.iterPos v2.heap.size) := ⟨by rw [iterPos_of hit]; omega⟩
      have hsz : pos < 9 := by omega
      clear HG hmem
      generalize hs[pos] = c at *
      generalize sayB p.f2 x ((c.toNat : Nat) : Int) = sv at *
      have f1 : 1 + sv.size ≤ 9223372036854775807 := by omega
      have fz : (⟨#[32]⟩ ++ sv : ByteArray).size ≤ 1073741825 := by rw [ByteArray.size_append]; show 1 + _ ≤ _; omega
      have f2 : acc.size + (⟨#[32]⟩ ++ sv : ByteArray).size ≤ 9223372036854775807 := by omega
      have FZ : Aside0 ((acc ++ (⟨#[32]⟩ ++ sv)).size ≤ 20 + 1073741825 * (pos + 1)) := ⟨by have h9 : (acc ++ (⟨#[32]⟩ ++ sv)).size = acc.size + (⟨#[32]⟩ ++ sv : ByteArray).size := ByteArray.size_append; omega⟩
      have HG3 := Aside0.mk HG1
      clear HG1 fz
      generalize wr.iterAt v2.heap.size hs (pos + 1) = wi at *
      have q0 := HZ.out.x.c 0
      have q1 := HZ.out.x.c 1
      have q2 := HZ.out.x.c 2
      have q3 := HZ.out.x.c 3
      have q4 := HZ.out.x.c 4
      have q5 := HZ.out.x.c 5
      have q6 := HZ.out.x.c 6
      have q7 := HZ.out.x.c 7
      have q8 := HZ.out.x.c 8
      have q9 := HZ.out.x.c 9
      have q10 := HZ.out.x.c 10
      have q11 := HZ.out.x.c 11
      have q12 := HZ.out.x.c 12
      have r0 := HZ.out.p.c 0
      have r1 := HZ.out.p.c 1
      have r2 := HZ.out.p.c 2
      have r3 := HZ.out.p.c 3
      go_wp2_with (first
        | (go_at_call 37
           with_reducible refine (cS.out _ HZ.out.x.hb).mono ?_
           rintro e v3 ⟨rfl, hbz⟩
           have HI3 := Aside0.mk ((hbz.block v2.heap.size (Array.getElem?_eq_some_iff.1 HI.out).1).trans HI.out)
           replace HZ := Aside0.mk (HZ.out.next hbz)
           clear hbz)
        | fail)
      go_roundw
      case rel => exact ⟨pos + 1, _, by omega, rfl, FZ.out, HI3.out, HG3, HZ⟩
      case measure => rw [iterPos_of HI3.out]; exact HMM.out
    · have hnx := fun ty => Lib.run_next_end_at (P := Tryd.prog) wr v2.heap.size hs pos ty hit hp
      obtain rfl : acc = R := by
        have := HG.out
        rw [List.drop_of_length_le (by rw [Array.length_toList]; show hs.size ≤ pos; omega)] at this
        exact this
      clear HG
      go_wp2
      go_ret
      exact ⟨rfl, HZ.out.x.hb⟩
end Go.Proofs.YtpdinahdcedmkaaDoor.Ext
/- What a plan's text is, as a specification. -/
namespace Go.Proofs.YtpdinahdcedmkaaDoor.Ext
open Go.Proofs.YtpdinahdcedmkaaDoor.P
set_option linter.unusedVariables false
set_option linter.unusedSimpArgs false
open Go.RowKit Go.Proofs.YtpdinahdcedmkaaDoorW.PrintWords Go.Proofs.YtpdinahdcedmkaaDoorW.PrintLast Go.Proofs.YtpdinahdcedmkaaDoorW.PrintMore Go.Proofs.YtpdinahdcedmkaaDoor.Spec

/-- what is known of a plan that is not big -/
structure PrintOk (p : Plan) : Prop where
  bd : PlanBd p
  nm : ∀ i, (p.f2.getD i ByteArray.empty).size ≤ 1000
  ac : p.f3.length ≤ 400
  say : checkS p = true → ∀ i, i < p.f3.length → SayOk p.f2 (p.f3.getD i z42)
def HP1 (w : World) (t : TypeId) (g : Nat) (p0 p1 p2 p3 : Value) (W : World) : Prop := W.cell? ⟨g, 0, none⟩ = some p0 ∧ W.cell? ⟨g, 1, none⟩ = some p1 ∧ W.cell? ⟨g, 2, none⟩ = some p2 ∧ W.cell? ⟨g, 3, none⟩ = some p3 ∧ Aside0 (Bx w W g [p0, p1, p2, p3] t)
theorem hp1_mk {w W : World} {t : TypeId} {g : Nat} {p0 p1 p2 p3 : Value} (h : Bx w W g [p0, p1, p2, p3] t) : HP1 w t g p0 p1 p2 p3 W := ⟨h.c 0, h.c 1, h.c 2, h.c 3, ⟨h⟩⟩
theorem HP1.b {w W : World} {t : TypeId} {g : Nat} {p0 p1 p2 p3 : Value} (h : HP1 w t g p0 p1 p2 p3 W) : Bx w W g [p0, p1, p2, p3] t := h.2.2.2.2.out
theorem HP1.next {w W W' : World} {t : TypeId} {g : Nat} {p0 p1 p2 p3 : Value} (h : HP1 w t g p0 p1 p2 p3 W) (hb : Below W.heap.size W W') : HP1 w t g p0 p1 p2 p3 W' := hp1_mk (h.b.next hb)
end Go.Proofs.YtpdinahdcedmkaaDoor.Ext
/- A plan that may be and is not big: what is known of the acts whose lines are said. -/
namespace Go.Proofs.YtpdinahdcedmkaaDoor.Ext
open Go.Proofs.YtpdinahdcedmkaaDoor.P
set_option linter.unusedVariables false
set_option linter.unusedSimpArgs false
open Go.RowKit Go.Proofs.YtpdinahdcedmkaaDoorW.PrintWords Go.Proofs.YtpdinahdcedmkaaDoorW.PrintLast Go.Proofs.YtpdinahdcedmkaaDoorW.PrintMore Go.Proofs.YtpdinahdcedmkaaDoor.Spec

/-- an act that may be and is not too much -/
theorem say_ok {l : List ByteArray} {x : Act} (hl : ∀ i, (l.getD i ByteArray.empty).size ≤ 1048576) (hx : ActOk x) (hm : muchS x = false) (h : mayS l.length x = true) : SayOk l x := by
  unfold muchS at hm
  simp only [Bool.or_eq_false_iff, decide_eq_false_iff_not] at hm
  rw [may_eq] at h
  unfold mayR b4R at h
  simp only [Bool.and_eq_true, Bool.not_eq_true', Bool.or_eq_false_iff, decide_eq_false_iff_not] at h
  obtain ⟨_, _, _, _, ⟨h1, h2, _, h3, h4, _⟩, _⟩ := h
  exact ⟨by omega, by omega, hl, hx.by_, by omega, by omega, by omega, hx.rg.1, hx.rg.2, hx.bd⟩
end Go.Proofs.YtpdinahdcedmkaaDoor.Ext
