import Derived.Test.YtpdinahdcedmkaaGreatDoorMSay
import Derived.Test.YtpdinahdcedmkaaGreatDoorHRText
import Derived.Test.YtpdinahdcedmkaaGreatDoorMPure
/- What a line has of any letter; an act's line, on both sides. -/
namespace Go.Proofs.YtpdinahdcedmkaaGreatDoor.Ext
open Go.Proofs.YtpdinahdcedmkaaGreatDoor.P
set_option linter.unusedVariables false
set_option linter.unusedSimpArgs false
open Go.RowKit Go.Proofs.YtpdinahdcedmkaaGreatDoorW.PrintWords Go.Proofs.YtpdinahdcedmkaaGreatDoorW.PrintLast Go.Proofs.YtpdinahdcedmkaaGreatDoorW.PrintMore Go.Proofs.YtpdinahdcedmkaaGreatDoor.Spec

theorem say_w (l : List ByteArray) (x : Act) : sayB l x (((119 : UInt8).toNat : Nat) : Int) = strOfNums (hexS x.f10) := by unfold sayB; simp
theorem say_m (l : List ByteArray) (x : Act) : sayB l x (((109 : UInt8).toNat : Nat) : Int) = quoteS (strOfNums x.f10) := by unfold sayB; simp
theorem say_x (l : List ByteArray) (x : Act) : sayB l x (((120 : UInt8).toNat : Nat) : Int) = strOfNums (hexS x.f10) := by unfold sayB; simp
theorem say_b (l : List ByteArray) (x : Act) : sayB l x (((98 : UInt8).toNat : Nat) : Int) = decS (IntKind.u64.wrap x.f9) := by unfold sayB; simp
theorem say_n (l : List ByteArray) (x : Act) : sayB l x (((110 : UInt8).toNat : Nat) : Int) = decS (IntKind.u64.wrap x.f9) := by unfold sayB; simp
theorem say_s (l : List ByteArray) (x : Act) : sayB l x (((115 : UInt8).toNat : Nat) : Int) = setsB x := by unfold sayB; simp
theorem say_d (l : List ByteArray) (x : Act) : sayB l x (((100 : UInt8).toNat : Nat) : Int) = quoteS (l.getD x.f1.toNat ByteArray.empty) := by unfold sayB; simp
theorem say_t (l : List ByteArray) (x : Act) : sayB l x (((116 : UInt8).toNat : Nat) : Int) = quoteS (l.getD x.f2.toNat ByteArray.empty) := by unfold sayB; simp
theorem say_k (l : List ByteArray) (x : Act) : sayB l x (((107 : UInt8).toNat : Nat) : Int) = decS (IntKind.u64.wrap x.f6) := by unfold sayB; simp
theorem say_i (l : List ByteArray) (x : Act) : sayB l x (((105 : UInt8).toNat : Nat) : Int) = decS (IntKind.u64.wrap x.f7) := by unfold sayB; simp
theorem say_r (l : List ByteArray) (x : Act) : sayB l x (((114 : UInt8).toNat : Nat) : Int) = (decS x.f8.f0 ++ ⟨#[32]⟩) ++ decS x.f8.f1 := by unfold sayB; simp
theorem say_p (l : List ByteArray) (x : Act) : sayB l x (((112 : UInt8).toNat : Nat) : Int) = pickS x.f11 := by unfold sayB; simp
theorem c_said (p : Plan) (x : Act) (cp cs : List Value) (w : World) (hP : k25.K w p cp) (hK : k34.K w x cs) (h : SayOk p.f2 x) (hT : Lib.Utf8Tabs 1 2 w) (c : UInt8) (hc : c ∈ lets) :
    Calls Tryz.prog 67 #[.agg cp.toArray, .agg cs.toArray, .int .i32 ((c.toNat : Nat) : Int)] w (StrB (sayB p.f2 x ((c.toNat : Nat) : Int)) w) := by
  have hz : (strOfNums x.f10).size ≤ 1048576 := by rw [strOfNums_size]; exact h.dl
  unfold lets at hc
  simp only [List.mem_cons, List.not_mem_nil, or_false] at hc
  rcases hc with rfl | rfl | rfl | rfl | rfl | rfl | rfl | rfl | rfl | rfl | rfl | rfl
  · rw [say_w]
    exact said_w p x cp cs w hP hK h.by_ h.dl
  · rw [say_m]
    exact said_m p x cp cs w hP hK (Nat.le_trans hz (by omega)) hT
  · rw [say_x]
    exact said_x p x cp cs w hP hK h.by_ h.dl
  · rw [say_b]
    exact said_b p x cp cs w hP hK
  · rw [say_n]
    exact said_n p x cp cs w hP hK
  · rw [say_s]
    exact said_s p x cp cs w hP hK h.bd h.ll
  · rw [say_d]
    exact said_d p x cp cs w hP hK h.d.1 h.d.2 (Nat.le_trans (h.nm _) (by omega)) hT
  · rw [say_t]
    exact said_t p x cp cs w hP hK h.t.1 h.t.2 (Nat.le_trans (h.nm _) (by omega)) hT
  · rw [say_k]
    exact said_k p x cp cs w hP hK
  · rw [say_i]
    exact said_i p x cp cs w hP hK
  · rw [say_r]
    exact said_r p x cp cs w hP hK h.lo.1 h.lo.2 h.hi.1 h.hi.2
  · rw [say_p]
    exact said_p p x cp cs w hP hK h.pk
theorem r_text (p : Plan) (x : Act) (cp cs : List Value) (w : World) (hP : k25.K w p cp) (hK : k34.K w x cs) (h : SayOk p.f2 x) (c : UInt8) (hc : c ∈ lets) :
    Calls Tryz.prog 31 #[.agg cp.toArray, .agg cs.toArray, .int .i32 ((c.toNat : Nat) : Int)] w (StrB (sayB p.f2 x ((c.toNat : Nat) : Int)) w) := by
  have hz : (strOfNums x.f10).size ≤ 1048576 := by rw [strOfNums_size]; exact h.dl
  unfold lets at hc
  simp only [List.mem_cons, List.not_mem_nil, or_false] at hc
  rcases hc with rfl | rfl | rfl | rfl | rfl | rfl | rfl | rfl | rfl | rfl | rfl | rfl
  · rw [say_w]
    exact text_w p x cp cs w hP hK h.by_ h.dl
  · rw [say_m]
    exact text_m p x cp cs w hP hK (Nat.le_trans hz (by omega))
  · rw [say_x]
    exact text_x p x cp cs w hP hK h.by_ h.dl
  · rw [say_b]
    exact text_b p x cp cs w hP hK
  · rw [say_n]
    exact text_n p x cp cs w hP hK
  · rw [say_s]
    exact text_s p x cp cs w hP hK h.bd h.ll
  · rw [say_d]
    exact text_d p x cp cs w hP hK h.d.1 h.d.2 (Nat.le_trans (h.nm _) (by omega))
  · rw [say_t]
    exact text_t p x cp cs w hP hK h.t.1 h.t.2 (Nat.le_trans (h.nm _) (by omega))
  · rw [say_k]
    exact text_k p x cp cs w hP hK
  · rw [say_i]
    exact text_i p x cp cs w hP hK
  · rw [say_r]
    exact text_r p x cp cs w hP hK h.lo.1 h.lo.2 h.hi.1 h.hi.2
  · rw [say_p]
    exact text_p p x cp cs w hP hK h.pk
theorem Bx.iter {w W : World} {g : Nat} {cs : List Value} {t : TypeId} (h : Bx w W g cs t) {k pos : Nat} {s : ByteArray} (hk : W.heap[k]? = some (.stringIter s pos)) (hge : w.heap.size ≤ k) (q : Nat) : Bx w (W.iterAt k s q) g cs t :=
  ⟨(Lib.iterAt_other W k g s q (by rintro rfl; rw [h.row] at hk; cases hk)).trans h.row, Lib.below_iterAt h.hb hge s q⟩
theorem HX.iter {w W : World} {tp ta : TypeId} {pb xb : Nat} {p0 p1 p2 p3 c0 c1 c2 c3 c4 c5 c6 c7 c8 c9 c10 c11 c12 : Value} (h : HX w tp ta pb xb p0 p1 p2 p3 c0 c1 c2 c3 c4 c5 c6 c7 c8 c9 c10 c11 c12 W) {k pos : Nat} {s : ByteArray} (hk : W.heap[k]? = some (.stringIter s pos)) (hge : w.heap.size ≤ k) (q : Nat) : HX w tp ta pb xb p0 p1 p2 p3 c0 c1 c2 c3 c4 c5 c6 c7 c8 c9 c10 c11 c12 (W.iterAt k s q) :=
  hx_mk (h.p.iter hk hge q) (h.x.iter hk hge q)
/-- a string's and an error's contract -/
def StrE (s : ByteArray) (n : Int) (w : World) : Ending → World → Prop := fun e w' => e = .returned (.tuple #[.string s, .int .i64 n]) ∧ Below w.heap.size w w'
theorem rname_rows : ∀ n : Fin 18, liveryref27_Name.f ((n.val : Nat) : Int) = some (rowOf ((n.val : Nat) : Int)).1 := by decide +kernel
theorem ref_name (d : Int) : liveryref27_Name.f d = some (rowOf d).1 := by
  by_cases h : 0 ≤ d ∧ d < 18
  · obtain ⟨n, rfl⟩ := Int.eq_ofNat_of_zero_le h.1
    exact rname_rows ⟨n, by omega⟩
  · have e : (rowOf d).1 = ⟨#[]⟩ := by unfold rowOf; rw [if_neg h]
    rw [e]
    unfold liveryref27_Name.f
    by_cases h1 : d < 1
    · simp [h1]
    · simp [h1, show 17 < d by omega]
theorem r_RName (d : Int) (w : World) : Calls Tryz.prog 29 #[.int .i64 d] w fun e w' => e = .returned (.string (rowOf d).1) ∧ Below w.heap.size w w' := liveryref27_Name.calls d _ w (ref_name d)
set_option maxHeartbeats 8000000 in
set_option maxRecDepth 100000 in
theorem c_line (p : Plan) (x : Act) (cp cs : List Value) (w : World) (hP : k25.K w p cp) (hK : k34.K w x cs) (h : SayOk p.f2 x) (hT : Lib.Utf8Tabs 1 2 w) :
    Calls Tryz.prog 26 #[.agg cp.toArray, .agg cs.toArray] w (StrB (lineB p.f2 x) w) := by
  have cn := Lib.hid (c_SName x.f0)
  have ch := Lib.hid (c_Has x.f0)
  have ca := Lib.hid (row_ascii x.f0)
  have cl := Lib.hid (row_lets x.f0)
  have hrz := row_sizes x.f0
  have hnz : (rowOf x.f0).1.size ≤ 20 + 1073741825 * 0 := hrz.2
  have cz := Lib.hid (sayB_size h)
  have cW := Lib.hid (fun W (hW : Below w.heap.size w W) c hc => c_said p x cp cs W (k25.K_below hW hP) (k34.K_below hW hK) h (Utf8Tabs_below hT hW) c hc)
  have P0 := Aside0.mk ((Bx.new w cp 25).push (.cells cs.toArray 34))
  have X0 := Aside0.mk ((Bx.new w cp 25).on cs 34 |>.at_ (show _ = w.heap.size + 1 by simp))
  obtain ⟨R, hR⟩ : ∃ R, lineB p.f2 x = R := ⟨_, rfl⟩
  rw [hR]
  unfold lineB at hR
  have HR := Lib.hid hR
  obtain ⟨A4, c4, A11, c11, A12, c12, rfl, l4, g4, l11, g11, l12, g12⟩ := k34_open hK
  obtain ⟨B2, d2, B3, d3, rfl, m2, e2, m3, e3⟩ := k25_open hP
  have HZ := Aside0.mk (hx_mk P0.out X0.out)
  clear P0 X0 hP hK g4 g11 g12 l4 l11 l12 m2 e2 m3 e3 hR h hT
  generalize (rowOf x.f0).1 = nm at *
  generalize (rowOf x.f0).2 = hs at *
  have q0 := HZ.out.x.c 0
  have q1 := HZ.out.x.c 1
  have q2 := HZ.out.x.c 2
  have q3 := HZ.out.x.c 3
  have q4 := HZ.out.x.c 4
  have q5 := HZ.out.x.c 5
  have q6 := HZ.out.x.c 6
  have q7 := HZ.out.x.c 7
  have q8 := HZ.out.x.c 8
  have q9 := HZ.out.x.c 9
  have q10 := HZ.out.x.c 10
  have q11 := HZ.out.x.c 11
  have q12 := HZ.out.x.c 12
  have r0 := HZ.out.p.c 0
  have r1 := HZ.out.p.c 1
  have r2 := HZ.out.p.c 2
  have r3 := HZ.out.p.c 3
  go_enter Tryz.func26, Tryz.ntmps26
  go_wp2_with (first
    | (go_at_call 63
       with_reducible refine (cn.out _).mono ?_
       rintro e v1 ⟨rfl, hbz⟩
       replace HZ := Aside0.mk (HZ.out.next hbz)
       clear hbz
       have q0 := HZ.out.x.c 0
       have q1 := HZ.out.x.c 1
       have q2 := HZ.out.x.c 2
       have q3 := HZ.out.x.c 3
       have q4 := HZ.out.x.c 4
       have q5 := HZ.out.x.c 5
       have q6 := HZ.out.x.c 6
       have q7 := HZ.out.x.c 7
       have q8 := HZ.out.x.c 8
       have q9 := HZ.out.x.c 9
       have q10 := HZ.out.x.c 10
       have q11 := HZ.out.x.c 11
       have q12 := HZ.out.x.c 12
       have r0 := HZ.out.p.c 0
       have r1 := HZ.out.p.c 1
       have r2 := HZ.out.p.c 2
       have r3 := HZ.out.p.c 3)
    | (go_at_call 36
       with_reducible refine (ch.out _).mono ?_
       rintro e v2 ⟨rfl, hbz⟩
       have HZ2 := Aside0.mk (HZ.out.next hbz)
       clear hbz)
    | fail)
  go_loopw [5] (fun v5 wr => ∃ (pos : Nat) (acc : ByteArray), pos ≤ hs.size ∧ v5 = .string acc ∧ acc.size ≤ 20 + 1073741825 * pos ∧ wr.heap[v2.heap.size]? = some (.stringIter hs pos) ∧ Aside0 ((hs.data.toList.drop pos).foldl (lineF p.f2 x) acc = R) ∧ Aside0 (HX w 25 34 w.heap.size (w.heap.size + 1) (.int .i64 p.f0) (.int .i64 p.f1) (.slice B2 p.f2.length d2) (.slice B3 p.f3.length d3) (.int .i64 x.f0) (.int .i64 x.f1) (.int .i64 x.f2) (.int .i64 x.f3) (.slice A4 x.f4.length c4) (.int .u32 x.f5) (.int .u32 x.f6) (.int .u32 x.f7) (.int .u64 x.f8.f0) (.int .u64 x.f8.f1) (.int .i64 x.f9) (.slice A11 x.f10.length c11) (.slice A12 x.f11.length c12) wr)) (fun _ wr => hs.size - wr.iterPos v2.heap.size)
  case atStart => exact ⟨0, nm, by omega, rfl, hnz, iter_new v2 hs, ⟨HR.out⟩, ⟨HZ2.out.next ((Below.refl _ _).alloc (Nat.le_refl _) _)⟩⟩
  case round =>
    have hge : w.heap.size ≤ v2.heap.size := HZ2.out.x.hb.size
    clear HZ HZ2 q0 q1 q2 q3 q4 q5 q6 q7 q8 q9 q10 q11 q12 r0 r1 r2 r3
    obtain ⟨pos, acc, hpl, rfl, hac, hit, HG, HZ⟩ := hrel
    by_cases hp : pos < hs.size
    · have hnx := fun ty => Lib.run_next_ascii_at (P := Tryz.prog) wr v2.heap.size hs pos ty hit hp (ca.out pos hp)
      have HG1 := HG.out
      rw [row_drop hs pos hp, List.foldl_cons] at HG1
      have hmem : hs[pos] ∈ lets := cl.out _ (by rw [List.mem_iff_getElem]; exact ⟨pos, by rw [Array.length_toList]; exact hp, rfl⟩)
      have cS := Lib.hid (fun W (hW : Below w.heap.size w W) => cW.out W hW hs[pos] hmem)
      have hz := cz.out ((hs[pos].toNat : Nat) : Int)
      unfold lineF at HG1
      have HI := Aside0.mk (Lib.iterAt_heap wr v2.heap.size hs pos (pos + 1) hit)
      replace HZ := Aside0.mk (HZ.out.iter hit hge (pos + 1))
      have HMM : Aside0 (hs.size - (pos + 1) < hs.size - wr.iterPos v2.heap.size) := ⟨by rw [iterPos_of hit]; omega⟩
      have hsz : pos < 9 := by omega
      clear HG hmem
      generalize hs[pos] = c at *
      generalize sayB p.f2 x ((c.toNat : Nat) : Int) = sv at *
      have f1 : 1 + sv.size ≤ 9223372036854775807 := by omega
      have fz : (⟨#[32]⟩ ++ sv : ByteArray).size ≤ 1073741825 := by rw [ByteArray.size_append]; show 1 + _ ≤ _; omega
      have f2 : acc.size + (⟨#[32]⟩ ++ sv : ByteArray).size ≤ 9223372036854775807 := by omega
      have FZ : Aside0 ((acc ++ (⟨#[32]⟩ ++ sv)).size ≤ 20 + 1073741825 * (pos + 1)) := ⟨by have h9 : (acc ++ (⟨#[32]⟩ ++ sv)).size = acc.size + (⟨#[32]⟩ ++ sv : ByteArray).size := ByteArray.size_append; omega⟩
      have HG3 := Aside0.mk HG1
      clear HG1 fz
      generalize wr.iterAt v2.heap.size hs (pos + 1) = wi at *
      have q0 := HZ.out.x.c 0
      have q1 := HZ.out.x.c 1
      have q2 := HZ.out.x.c 2
      have q3 := HZ.out.x.c 3
      have q4 := HZ.out.x.c 4
      have q5 := HZ.out.x.c 5
      have q6 := HZ.out.x.c 6
      have q7 := HZ.out.x.c 7
      have q8 := HZ.out.x.c 8
      have q9 := HZ.out.x.c 9
      have q10 := HZ.out.x.c 10
      have q11 := HZ.out.x.c 11
      have q12 := HZ.out.x.c 12
      have r0 := HZ.out.p.c 0
      have r1 := HZ.out.p.c 1
      have r2 := HZ.out.p.c 2
      have r3 := HZ.out.p.c 3
      go_wp2_with (first
        | (go_at_call 67
           with_reducible refine (cS.out _ HZ.out.x.hb).mono ?_
           rintro e v3 ⟨rfl, hbz⟩
           have HI3 := Aside0.mk ((hbz.block v2.heap.size (Array.getElem?_eq_some_iff.1 HI.out).1).trans HI.out)
           replace HZ := Aside0.mk (HZ.out.next hbz)
           clear hbz)
        | fail)
      go_roundw
      case rel => exact ⟨pos + 1, _, by omega, rfl, FZ.out, HI3.out, HG3, HZ⟩
      case measure => rw [iterPos_of HI3.out]; exact HMM.out
    · have hnx := fun ty => Lib.run_next_end_at (P := Tryz.prog) wr v2.heap.size hs pos ty hit hp
      obtain rfl : acc = R := by
        have := HG.out
        rw [List.drop_of_length_le (by rw [Array.length_toList]; show hs.size ≤ pos; omega)] at this
        exact this
      clear HG
      go_wp2
      go_ret
      exact ⟨rfl, HZ.out.x.hb⟩
set_option maxHeartbeats 16000000 in
set_option maxRecDepth 100000 in
theorem r_LineYes (p : Plan) (x : Act) (cp cs : List Value) (w : World) (hP : k25.K w p cp) (hK : k34.K w x cs) (hp : PlanBd p) (hx : ActBd x) (hsm : ∀ i, (p.f2.getD i ByteArray.empty).size ≤ 1073741824) (hh : headedS p.f0 p.f1 p.f2 = true) (hm : mayR p.f2.length x = true) (h : SayOk p.f2 x) :
    Calls Tryz.prog 12 #[.agg cp.toArray, .agg cs.toArray] w (StrE (lineB p.f2 x) 0 w) := by
  have cH := fun W (hW : Below w.heap.size w W) => r_head p cp W (k25.K_below hW hP) hp hsm
  have cM := fun W (hW : Below w.heap.size w W) => r_may p x cp cs W (k25.K_below hW hP) (k34.K_below hW hK) hx
  rw [hh] at cH
  rw [hm] at cM
  replace cH := Lib.hid cH
  replace cM := Lib.hid cM
  have cn := Lib.hid (r_RName x.f0)
  have ch := Lib.hid (r_Has x.f0)
  have ca := Lib.hid (row_ascii x.f0)
  have cl := Lib.hid (row_lets x.f0)
  have hrz := row_sizes x.f0
  have hnz : (rowOf x.f0).1.size ≤ 20 + 1073741825 * 0 := hrz.2
  have cz := Lib.hid (sayB_size h)
  have cW := Lib.hid (fun W (hW : Below w.heap.size w W) c hc => r_text p x cp cs W (k25.K_below hW hP) (k34.K_below hW hK) h c hc)
  have P0 := Aside0.mk ((Bx.new w cp 25).push (.cells cs.toArray 34))
  have X0 := Aside0.mk ((Bx.new w cp 25).on cs 34 |>.at_ (show _ = w.heap.size + 1 by simp))
  obtain ⟨R, hR⟩ : ∃ R, lineB p.f2 x = R := ⟨_, rfl⟩
  rw [hR]
  unfold lineB at hR
  have HR := Lib.hid hR
  obtain ⟨A4, c4, A11, c11, A12, c12, rfl, l4, g4, l11, g11, l12, g12⟩ := k34_open hK
  obtain ⟨B2, d2, B3, d3, rfl, m2, e2, m3, e3⟩ := k25_open hP
  have HZ := Aside0.mk (hx_mk P0.out X0.out)
  clear P0 X0 hP hK g4 g11 g12 l4 l11 l12 m2 e2 m3 e3 hR h hp hx hsm hh hm
  generalize (rowOf x.f0).1 = nm at *
  generalize (rowOf x.f0).2 = hs at *
  have q0 := HZ.out.x.c 0
  have q1 := HZ.out.x.c 1
  have q2 := HZ.out.x.c 2
  have q3 := HZ.out.x.c 3
  have q4 := HZ.out.x.c 4
  have q5 := HZ.out.x.c 5
  have q6 := HZ.out.x.c 6
  have q7 := HZ.out.x.c 7
  have q8 := HZ.out.x.c 8
  have q9 := HZ.out.x.c 9
  have q10 := HZ.out.x.c 10
  have q11 := HZ.out.x.c 11
  have q12 := HZ.out.x.c 12
  have r0 := HZ.out.p.c 0
  have r1 := HZ.out.p.c 1
  have r2 := HZ.out.p.c 2
  have r3 := HZ.out.p.c 3
  go_enter Tryz.func12, Tryz.ntmps12
  go_wp2_with (first
    | (go_at_call 27
       with_reducible refine (cH.out _ HZ.out.x.hb).mono ?_
       rintro e v ⟨rfl, hb⟩
       replace HZ := Aside0.mk (HZ.out.next hb)
       clear hb
       have q0 := HZ.out.x.c 0
       have q1 := HZ.out.x.c 1
       have q2 := HZ.out.x.c 2
       have q3 := HZ.out.x.c 3
       have q4 := HZ.out.x.c 4
       have q5 := HZ.out.x.c 5
       have q6 := HZ.out.x.c 6
       have q7 := HZ.out.x.c 7
       have q8 := HZ.out.x.c 8
       have q9 := HZ.out.x.c 9
       have q10 := HZ.out.x.c 10
       have q11 := HZ.out.x.c 11
       have q12 := HZ.out.x.c 12
       have r0 := HZ.out.p.c 0
       have r1 := HZ.out.p.c 1
       have r2 := HZ.out.p.c 2
       have r3 := HZ.out.p.c 3)
    | (go_at_call 28
       with_reducible refine (cM.out _ HZ.out.x.hb).mono ?_
       rintro e v ⟨rfl, hb⟩
       replace HZ := Aside0.mk (HZ.out.next hb)
       clear hb
       have q0 := HZ.out.x.c 0
       have q1 := HZ.out.x.c 1
       have q2 := HZ.out.x.c 2
       have q3 := HZ.out.x.c 3
       have q4 := HZ.out.x.c 4
       have q5 := HZ.out.x.c 5
       have q6 := HZ.out.x.c 6
       have q7 := HZ.out.x.c 7
       have q8 := HZ.out.x.c 8
       have q9 := HZ.out.x.c 9
       have q10 := HZ.out.x.c 10
       have q11 := HZ.out.x.c 11
       have q12 := HZ.out.x.c 12
       have r0 := HZ.out.p.c 0
       have r1 := HZ.out.p.c 1
       have r2 := HZ.out.p.c 2
       have r3 := HZ.out.p.c 3)
    | (go_at_call 29
       with_reducible refine (cn.out _).mono ?_
       rintro e v1 ⟨rfl, hbz⟩
       replace HZ := Aside0.mk (HZ.out.next hbz)
       clear hbz
       have q0 := HZ.out.x.c 0
       have q1 := HZ.out.x.c 1
       have q2 := HZ.out.x.c 2
       have q3 := HZ.out.x.c 3
       have q4 := HZ.out.x.c 4
       have q5 := HZ.out.x.c 5
       have q6 := HZ.out.x.c 6
       have q7 := HZ.out.x.c 7
       have q8 := HZ.out.x.c 8
       have q9 := HZ.out.x.c 9
       have q10 := HZ.out.x.c 10
       have q11 := HZ.out.x.c 11
       have q12 := HZ.out.x.c 12
       have r0 := HZ.out.p.c 0
       have r1 := HZ.out.p.c 1
       have r2 := HZ.out.p.c 2
       have r3 := HZ.out.p.c 3)
    | (go_at_call 30
       with_reducible refine (ch.out _).mono ?_
       rintro e v2 ⟨rfl, hbz⟩
       have HZ2 := Aside0.mk (HZ.out.next hbz)
       clear hbz)
    | fail)
  go_loopw [6] (fun v5 wr => ∃ (pos : Nat) (acc : ByteArray), pos ≤ hs.size ∧ v5 = .string acc ∧ acc.size ≤ 20 + 1073741825 * pos ∧ wr.heap[v2.heap.size]? = some (.stringIter hs pos) ∧ Aside0 ((hs.data.toList.drop pos).foldl (lineF p.f2 x) acc = R) ∧ Aside0 (HX w 25 34 w.heap.size (w.heap.size + 1) (.int .i64 p.f0) (.int .i64 p.f1) (.slice B2 p.f2.length d2) (.slice B3 p.f3.length d3) (.int .i64 x.f0) (.int .i64 x.f1) (.int .i64 x.f2) (.int .i64 x.f3) (.slice A4 x.f4.length c4) (.int .u32 x.f5) (.int .u32 x.f6) (.int .u32 x.f7) (.int .u64 x.f8.f0) (.int .u64 x.f8.f1) (.int .i64 x.f9) (.slice A11 x.f10.length c11) (.slice A12 x.f11.length c12) wr)) (fun _ wr => hs.size - wr.iterPos v2.heap.size)
  case atStart => exact ⟨0, nm, by omega, rfl, hnz, iter_new v2 hs, ⟨HR.out⟩, ⟨HZ2.out.next ((Below.refl _ _).alloc (Nat.le_refl _) _)⟩⟩
  case round =>
    have hge : w.heap.size ≤ v2.heap.size := HZ2.out.x.hb.size
    clear HZ HZ2 q0 q1 q2 q3 q4 q5 q6 q7 q8 q9 q10 q11 q12 r0 r1 r2 r3
    obtain ⟨pos, acc, hpl, rfl, hac, hit, HG, HZ⟩ := hrel
    by_cases hp : pos < hs.size
    · have hnx := fun ty => Lib.run_next_ascii_at (P := Tryz.prog) wr v2.heap.size hs pos ty hit hp (ca.out pos hp)
      have HG1 := HG.out
      rw [row_drop hs pos hp, List.foldl_cons] at HG1
      have hmem : hs[pos] ∈ lets := cl.out _ (by rw [List.mem_iff_getElem]; exact ⟨pos, by rw [Array.length_toList]; exact hp, rfl⟩)
      have cS := Lib.hid (fun W (hW : Below w.heap.size w W) => cW.out W hW hs[pos] hmem)
      have hz := cz.out ((hs[pos].toNat : Nat) : Int)
      unfold lineF at HG1
      have HI := Aside0.mk (Lib.iterAt_heap wr v2.heap.size hs pos (pos + 1) hit)
      replace HZ := Aside0.mk (HZ.out.iter hit hge (pos + 1))
      have HMM : Aside0 (hs.size - (pos + 1) < hs.size - wr.iterPos v2.heap.size) := ⟨by rw [iterPos_of hit]; omega⟩
      have hsz : pos < 9 := by omega
      clear HG hmem
      generalize hs[pos] = c at *
      generalize sayB p.f2 x ((c.toNat : Nat) : Int) = sv at *
      have f1 : 1 + sv.size ≤ 9223372036854775807 := by omega
      have fz : (⟨#[32]⟩ ++ sv : ByteArray).size ≤ 1073741825 := by rw [ByteArray.size_append]; show 1 + _ ≤ _; omega
      have f2 : acc.size + (⟨#[32]⟩ ++ sv : ByteArray).size ≤ 9223372036854775807 := by omega
      have FZ : Aside0 ((acc ++ (⟨#[32]⟩ ++ sv)).size ≤ 20 + 1073741825 * (pos + 1)) := ⟨by have h9 : (acc ++ (⟨#[32]⟩ ++ sv)).size = acc.size + (⟨#[32]⟩ ++ sv : ByteArray).size := ByteArray.size_append; omega⟩
      have HG3 := Aside0.mk HG1
      clear HG1 fz
      generalize wr.iterAt v2.heap.size hs (pos + 1) = wi at *
      have q0 := HZ.out.x.c 0
      have q1 := HZ.out.x.c 1
      have q2 := HZ.out.x.c 2
      have q3 := HZ.out.x.c 3
      have q4 := HZ.out.x.c 4
      have q5 := HZ.out.x.c 5
      have q6 := HZ.out.x.c 6
      have q7 := HZ.out.x.c 7
      have q8 := HZ.out.x.c 8
      have q9 := HZ.out.x.c 9
      have q10 := HZ.out.x.c 10
      have q11 := HZ.out.x.c 11
      have q12 := HZ.out.x.c 12
      have r0 := HZ.out.p.c 0
      have r1 := HZ.out.p.c 1
      have r2 := HZ.out.p.c 2
      have r3 := HZ.out.p.c 3
      go_wp2_with (first
        | (go_at_call 31
           with_reducible refine (cS.out _ HZ.out.x.hb).mono ?_
           rintro e v3 ⟨rfl, hbz⟩
           have HI3 := Aside0.mk ((hbz.block v2.heap.size (Array.getElem?_eq_some_iff.1 HI.out).1).trans HI.out)
           replace HZ := Aside0.mk (HZ.out.next hbz)
           clear hbz)
        | fail)
      go_roundw
      case rel => exact ⟨pos + 1, _, by omega, rfl, FZ.out, HI3.out, HG3, HZ⟩
      case measure => rw [iterPos_of HI3.out]; exact HMM.out
    · have hnx := fun ty => Lib.run_next_end_at (P := Tryz.prog) wr v2.heap.size hs pos ty hit hp
      obtain rfl : acc = R := by
        have := HG.out
        rw [List.drop_of_length_le (by rw [Array.length_toList]; show hs.size ≤ pos; omega)] at this
        exact this
      clear HG
      go_wp2
      go_ret2
      exact ⟨rfl, HZ.out.x.hb⟩
end Go.Proofs.YtpdinahdcedmkaaGreatDoor.Ext
/- What a plan's text is, as a specification. -/
namespace Go.Proofs.YtpdinahdcedmkaaGreatDoor.Ext
open Go.Proofs.YtpdinahdcedmkaaGreatDoor.P
set_option linter.unusedVariables false
set_option linter.unusedSimpArgs false
open Go.RowKit Go.Proofs.YtpdinahdcedmkaaGreatDoorW.PrintWords Go.Proofs.YtpdinahdcedmkaaGreatDoorW.PrintLast Go.Proofs.YtpdinahdcedmkaaGreatDoorW.PrintMore Go.Proofs.YtpdinahdcedmkaaGreatDoor.Spec

def firstB (p : Plan) : ByteArray := ((⟨#[108, 105, 118, 101, 114, 121, 32]⟩ ++ decS (IntKind.u64.wrap p.f0)) ++ ⟨#[32]⟩) ++ decS (IntKind.u64.wrap p.f1)
def namedB (s : ByteArray) : ByteArray := ⟨#[100, 101, 118, 105, 99, 101, 32]⟩ ++ quoteS s
def nameF (a s : ByteArray) : ByteArray := a ++ (namedB s ++ ⟨#[10]⟩)
def actF (l : List ByteArray) (a : ByteArray) (x : Act) : ByteArray := a ++ (lineB l x ++ ⟨#[10]⟩)
def headB (p : Plan) : ByteArray := p.f2.foldl nameF (firstB p ++ ⟨#[10]⟩)
/-- a plan's text -/
def printB (p : Plan) : ByteArray := p.f3.foldl (actF p.f2) (headB p)
/-- Print's answer -/
def printE (p : Plan) : ByteArray × Int := if checkS p = true then (if 1048576 < (printB p).size then (⟨#[]⟩, 3) else (printB p, 0)) else (⟨#[]⟩, 270)
theorem app_size (a b : ByteArray) : (a ++ b).size = a.size + b.size := ByteArray.size_append
theorem size3 (a b : ByteArray) : (a ++ (b ++ ⟨#[10]⟩)).size = a.size + (b.size + 1) := by rw [app_size, app_size]; rfl
theorem firstB_size (p : Plan) : (firstB p).size ≤ 48 := by
  have h1 := decS_size _ (wrap_u64_bd p.f0).2
  have h2 := decS_size _ (wrap_u64_bd p.f1).2
  unfold firstB
  simp only [app_size]
  show 7 + _ + 1 + _ ≤ _
  omega
theorem namedB_size (s : ByteArray) (h : s.size ≤ 1000) : (namedB s).size ≤ 4009 := by
  have := quoteS_size s
  unfold namedB
  rw [app_size]
  show 7 + _ ≤ _
  omega
theorem actF_fold (l : List ByteArray) (xs : List Act) : ∀ a : ByteArray, a.size ≤ (xs.foldl (actF l) a).size := by
  induction xs with
  | nil => intro a; exact Nat.le_refl _
  | cons x t ih =>
    intro a
    refine Nat.le_trans ?_ (ih _)
    unfold actF
    rw [app_size]
    omega
/-- what is known of a plan that is not big -/
structure PrintOk (p : Plan) : Prop where
  bd : PlanBd p
  nm : ∀ i, (p.f2.getD i ByteArray.empty).size ≤ 1000
  ac : p.f3.length ≤ 400
  say : checkS p = true → ∀ i, i < p.f3.length → SayOk p.f2 (p.f3.getD i z34)
theorem check_head {p : Plan} (h : checkS p = true) : headedS p.f0 p.f1 p.f2 = true ∧ p.f2.length ≤ 16 ∧ ∀ i, i < p.f3.length → mayS p.f2.length (p.f3.getD i z34) = true := by
  unfold checkS at h
  simp only [Bool.and_eq_true, decide_eq_true_eq] at h
  refine ⟨h.1, ?_, fun i hi => ?_⟩
  · have := h.1
    unfold headedS at this
    simp only [Bool.and_eq_true, decide_eq_true_eq] at this
    omega
  · have := h.2.2
    unfold actsS at this
    rw [List.all_eq_true] at this
    rw [List.getD_eq_getElem?_getD, List.getElem?_eq_getElem hi]
    exact this _ (List.getElem_mem hi)
def HP1 (w : World) (t : TypeId) (g : Nat) (p0 p1 p2 p3 : Value) (W : World) : Prop := W.cell? ⟨g, 0, none⟩ = some p0 ∧ W.cell? ⟨g, 1, none⟩ = some p1 ∧ W.cell? ⟨g, 2, none⟩ = some p2 ∧ W.cell? ⟨g, 3, none⟩ = some p3 ∧ Aside0 (Bx w W g [p0, p1, p2, p3] t)
theorem hp1_mk {w W : World} {t : TypeId} {g : Nat} {p0 p1 p2 p3 : Value} (h : Bx w W g [p0, p1, p2, p3] t) : HP1 w t g p0 p1 p2 p3 W := ⟨h.c 0, h.c 1, h.c 2, h.c 3, ⟨h⟩⟩
theorem HP1.b {w W : World} {t : TypeId} {g : Nat} {p0 p1 p2 p3 : Value} (h : HP1 w t g p0 p1 p2 p3 W) : Bx w W g [p0, p1, p2, p3] t := h.2.2.2.2.out
theorem HP1.next {w W W' : World} {t : TypeId} {g : Nat} {p0 p1 p2 p3 : Value} (h : HP1 w t g p0 p1 p2 p3 W) (hb : Below W.heap.size W W') : HP1 w t g p0 p1 p2 p3 W' := hp1_mk (h.b.next hb)
theorem Bx.nextB {w W W' : World} {g B : Nat} {cs : List Value} {t : TypeId} (h : Bx w W g cs t) (hb : Below B W W') (hg : g < B) (hB : w.heap.size ≤ B) : Bx w W' g cs t := ⟨(hb.block g hg).trans h.row, h.hb.trans (hb.mono hB)⟩
theorem bld_below {T e : TypeId} {B b : Nat} {p : Value} {bs : List Value} {w w' : World} (h : Lib.BuilderAt T e B b p bs w) (hb : Below w.heap.size w w') : Lib.BuilderAt T e B b p bs w' := by
  obtain ⟨hB, v, hbk, hown, hne⟩ := h
  exact ⟨hB, v, (hb.block b (Array.getElem?_eq_some_iff.1 hbk).1).trans hbk, row_below hown hb, hne⟩
theorem isb_below {T e : TypeId} {B b : Nat} {bs : List Value} {w w' : World} (h : Lib.IsBuilder T e B b bs w) (hb : Below w.heap.size w w') : Lib.IsBuilder T e B b bs w' := h.elim (fun h => .inl (bld_below h hb)) (fun h => .inr (bld_below h hb))
theorem isb_lt {T e : TypeId} {B b : Nat} {bs : List Value} {w : World} (h : Lib.IsBuilder T e B b bs w) : B ≤ w.heap.size := h.elim (fun h => by have := h.lt; have := h.1; omega) (fun h => by have := h.lt; have := h.1; omega)
theorem bc_app (a s : ByteArray) : Lib.byteCells a.data.toList ++ Lib.strCells s = Lib.byteCells (a ++ s).data.toList := by
  simp [Lib.byteCells, Lib.strCells, ByteArray.data_append]
theorem bc_len (a : ByteArray) : (Lib.byteCells a.data.toList).length = a.size := by rw [Lib.byteCells_length, Array.length_toList]; rfl
end Go.Proofs.YtpdinahdcedmkaaGreatDoor.Ext
/- A plan that may be and is not big: what is known of the acts whose lines are said. -/
namespace Go.Proofs.YtpdinahdcedmkaaGreatDoor.Ext
open Go.Proofs.YtpdinahdcedmkaaGreatDoor.P
set_option linter.unusedVariables false
set_option linter.unusedSimpArgs false
open Go.RowKit Go.Proofs.YtpdinahdcedmkaaGreatDoorW.PrintWords Go.Proofs.YtpdinahdcedmkaaGreatDoorW.PrintLast Go.Proofs.YtpdinahdcedmkaaGreatDoorW.PrintMore Go.Proofs.YtpdinahdcedmkaaGreatDoor.Spec

theorem big_much {p : Plan} (h : bigS p = false) : p.f3.length ≤ 60 ∧ ∀ i, i < p.f3.length → muchS (p.f3.getD i z34) = false := by
  unfold bigS at h
  simp only [Bool.or_eq_false_iff, decide_eq_false_iff_not, List.any_eq_false] at h
  refine ⟨by omega, fun i hi => ?_⟩
  rw [List.getD_eq_getElem?_getD, List.getElem?_eq_getElem hi]
  have := h.2.2 _ (List.getElem_mem hi)
  simpa using this
/-- an act that may be and is not too much -/
theorem say_ok {l : List ByteArray} {x : Act} (hl : ∀ i, (l.getD i ByteArray.empty).size ≤ 1048576) (hx : ActOk x) (hm : muchS x = false) (h : mayS l.length x = true) : SayOk l x := by
  unfold muchS at hm
  simp only [Bool.or_eq_false_iff, decide_eq_false_iff_not] at hm
  rw [may_eq] at h
  unfold mayR b4R at h
  simp only [Bool.and_eq_true, Bool.not_eq_true', Bool.or_eq_false_iff, decide_eq_false_iff_not] at h
  obtain ⟨_, _, _, _, ⟨h1, h2, _, h3, h4, _⟩, _⟩ := h
  exact ⟨by omega, by omega, hl, hx.by_, by omega, by omega, by omega, hx.rg.1, hx.rg.2, hx.bd⟩
theorem say_plan {p : Plan} (h : bigS p = false) (hp : PlanOk p) (hck : checkS p = true) (i : Nat) (hi : i < p.f3.length) : SayOk p.f2 (p.f3.getD i z34) :=
  say_ok (fun j => Nat.le_trans ((big_names h).2 j) (by omega)) (hp.ac i) ((big_much h).2 i hi) ((check_head hck).2.2 i hi)
theorem print_ok {p : Plan} (h : bigS p = false) (hp : PlanOk p) : PrintOk p := ⟨planBd h hp, (big_names h).2, by have := (big_much h).1; omega, fun hck i hi => say_plan h hp hck i hi⟩
end Go.Proofs.YtpdinahdcedmkaaGreatDoor.Ext
