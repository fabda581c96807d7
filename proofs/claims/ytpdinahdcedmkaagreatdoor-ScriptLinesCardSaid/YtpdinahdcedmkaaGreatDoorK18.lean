import Derived.Test.YtpdinahdcedmkaaGreatDoorK10
import Derived.Test.YtpdinahdcedmkaaGreatDoorHRMay
import Derived.Test.YtpdinahdcedmkaaGreatDoorK9
import Derived.Test.YtpdinahdcedmkaaGreatDoorK11
import Derived.Test.YtpdinahdcedmkaaGreatDoorK13
import Derived.Test.YtpdinahdcedmkaaGreatDoorHRText
import Derived.BigRegion
set_option linter.unusedVariables false
set_option linter.unusedSimpArgs false
set_option maxHeartbeats 16000000
set_option maxRecDepth 100000
/- An act may be on the one side as on the other; what is known of a readable plan that is not big. -/
namespace Go.Proofs.YtpdinahdcedmkaaGreatDoor.Ext
open Go.Proofs.YtpdinahdcedmkaaGreatDoor.P
open Go.RowKit YtpdinahdcedmkaaGreatDoorW.PrintWords YtpdinahdcedmkaaGreatDoorW.PrintLast YtpdinahdcedmkaaGreatDoorW.PrintMore Go.Proofs.YtpdinahdcedmkaaGreatDoor.Spec
theorem keyed_eq (x : Act) : keyedS x = !(b2R (hasS x.f0 115) x.f3 x.f5 (setsS x) x.f4.length) := by
 unfold keyedS b2R
 cases hasS x.f0 115 with
 | false =>
   rw [Bool.eq_iff_iff]
   simp
   try omega
 | true =>
   by_cases h0 : x.f3 = 0
   · have : setsS x = false := by unfold setsS; rw [h0]; rfl
     rw [this, h0]; rfl
   · have e : (x.f3 != 0) = true := bne_iff_ne.2 h0
     rw [e]
     cases setsS x <;> rfl
theorem sized_eq (d nn : Int) (n k : Nat) : sizedS d n nn k = (dataR d n && (numberR d nn && (decide (k = 0) || (hasS d 112 && decide (k <= 600))))) := by
 unfold sizedS sizeB dataR numberR lowS highS mostS picksS
 cases hasS d 119 <;> cases hasS d 109 <;> cases hasS d 120 <;> cases hasS d 98 <;> cases hasS d 110 <;> cases hasS d 112 <;> (rw [Bool.eq_iff_iff]; simp; try omega)
theorem placed_eq (n : Nat) (x : Act) : placedS n x = (!(b4R (hasS x.f0 100) (hasS x.f0 116) x.f1 x.f2 n) && !(b5R (hasS x.f0 107) (hasS x.f0 105) (hasS x.f0 114) x.f6 x.f7 x.f8.f0 x.f8.f1)) := by
 unfold placedS b4R b5R inS oneS
 cases hasS x.f0 100 <;> cases hasS x.f0 116 <;> cases hasS x.f0 107 <;> cases hasS x.f0 105 <;> cases hasS x.f0 114 <;> (rw [Bool.eq_iff_iff]; simp; try omega)
theorem empty_eq (d : Int) : (rowOf d).1.toList.isEmpty = (rowOf d).2.toList.isEmpty := by
 unfold rowOf
 split
 · rename_i h
   obtain ⟨n, rfl⟩ := Int.eq_ofNat_of_zero_le h.1
   have : ∀ n : Fin 18, (rowTab.getD n.val (⟨#[]⟩, ⟨#[]⟩)).1.toList.isEmpty = (rowTab.getD n.val (⟨#[]⟩, ⟨#[]⟩)).2.toList.isEmpty := by decide +kernel
   exact this ⟨n, by omega⟩
 · rfl
theorem may_eq (n : Nat) (x : Act) : mayS n x = mayR n x := by
 unfold mayS mayR
 rw [keyed_eq, sized_eq, placed_eq, empty_eq]
 generalize (rowOf x.f0).2.toList.isEmpty = a
 generalize b2R _ _ _ _ _ = b
 generalize dataR _ _ = c
 generalize numberR _ _ = e
 generalize b4R _ _ _ _ _ = f
 generalize b5R _ _ _ _ _ _ _ = g
 generalize (decide (x.f11.length = 0) || _) = h
 cases a <;> cases b <;> cases c <;> cases e <;> cases f <;> cases g <;> cases h <;> rfl
def u64P (n : Int) : Prop := 0 <= n /\ n < 18446744073709551616
structure ActOk (x : Act) : Prop where
 bd : ActBd x
 by_ : Bytes x.f10
 rg : u64P x.f8.f0 /\ u64P x.f8.f1
 ky : u32P x.f6
 td : u32P x.f7
 ix : ∀ n ∈ [x.f0, x.f1, x.f2, x.f3, x.f9], -9223372036854775808 <= n /\ n <= 9223372036854775807
structure PlanOk (p : Plan) : Prop where
 ac : ∀ i, ActOk (p.f3.getD i z34)
 sr : ∀ n ∈ [p.f0, p.f1], -9223372036854775808 <= n /\ n <= 9223372036854775807
theorem big_names {p : Plan} (h : bigS p = false) : p.f2.length <= 40 /\ ∀ i, (p.f2.getD i ByteArray.empty).size <= 1000 := by
 unfold bigS bigL at h
 simp only [Bool.or_eq_false_iff, decide_eq_false_iff_not, List.any_eq_false, decide_eq_true_eq] at h
 refine ⟨by omega, fun i => ?_⟩
 rw [List.getD_eq_getElem?_getD]
 by_cases hi : i < p.f2.length
 · rw [List.getElem?_eq_getElem hi]
   have := h.2.1 _ (List.getElem_mem hi)
   show (p.f2[i]).size <= 1000
   omega
 · rw [List.getElem?_eq_none (by omega)]
   show (0 : Nat) <= 1000
   omega
theorem planBd {p : Plan} (h : bigS p = false) (hp : PlanOk p) : PlanBd p := ⟨by have := (big_names h).1; omega, fun i => by have := (big_names h).2 i; omega, fun i => (hp.ac i).bd⟩
theorem plan_small {p : Plan} (h : bigS p = false) : ∀ i, (p.f2.getD i ByteArray.empty).size <= 1073741824 := fun i => by have := (big_names h).2 i; omega
theorem say_w (l : List ByteArray) (x : Act) : sayB l x (((119 : UInt8).toNat : Nat) : Int) = strOfNums (hexS x.f10) := by unfold sayB; simp
theorem say_m (l : List ByteArray) (x : Act) : sayB l x (((109 : UInt8).toNat : Nat) : Int) = quoteS (strOfNums x.f10) := by unfold sayB; simp
theorem say_x (l : List ByteArray) (x : Act) : sayB l x (((120 : UInt8).toNat : Nat) : Int) = strOfNums (hexS x.f10) := by unfold sayB; simp
theorem say_b (l : List ByteArray) (x : Act) : sayB l x (((98 : UInt8).toNat : Nat) : Int) = decS (IntKind.u64.wrap x.f9) := by unfold sayB; simp
theorem say_n (l : List ByteArray) (x : Act) : sayB l x (((110 : UInt8).toNat : Nat) : Int) = decS (IntKind.u64.wrap x.f9) := by unfold sayB; simp
theorem say_s (l : List ByteArray) (x : Act) : sayB l x (((115 : UInt8).toNat : Nat) : Int) = setsB x := by unfold sayB; simp
theorem say_d (l : List ByteArray) (x : Act) : sayB l x (((100 : UInt8).toNat : Nat) : Int) = quoteS (l.getD x.f1.toNat ByteArray.empty) := by unfold sayB; simp
theorem say_t (l : List ByteArray) (x : Act) : sayB l x (((116 : UInt8).toNat : Nat) : Int) = quoteS (l.getD x.f2.toNat ByteArray.empty) := by unfold sayB; simp
theorem say_k (l : List ByteArray) (x : Act) : sayB l x (((107 : UInt8).toNat : Nat) : Int) = decS (IntKind.u64.wrap x.f6) := by unfold sayB; simp
theorem say_i (l : List ByteArray) (x : Act) : sayB l x (((105 : UInt8).toNat : Nat) : Int) = decS (IntKind.u64.wrap x.f7) := by unfold sayB; simp
theorem say_r (l : List ByteArray) (x : Act) : sayB l x (((114 : UInt8).toNat : Nat) : Int) = (decS x.f8.f0 ++ ⟨#[32]⟩) ++ decS x.f8.f1 := by unfold sayB; simp
theorem say_p (l : List ByteArray) (x : Act) : sayB l x (((112 : UInt8).toNat : Nat) : Int) = pickS x.f11 := by unfold sayB; simp
theorem c_said (p : Plan) (x : Act) (cp cs : List Value) (w : World) (hP : k25.K w p cp) (hK : k34.K w x cs) (h : SayOk p.f2 x) (hT : Lib.Utf8Tabs 1 2 w) (c : UInt8) (hc : c ∈ lets) :
 Calls Tryz.prog 67 #[.agg cp.toArray, .agg cs.toArray, .int .i32 ((c.toNat : Nat) : Int)] w (StrB (sayB p.f2 x ((c.toNat : Nat) : Int)) w) := by
 have hz : (strOfNums x.f10).size <= 1048576 := by rw [strOfNums_size]; exact h.dl
 unfold lets at hc
 simp only [List.mem_cons, List.not_mem_nil, or_false] at hc
 rcases hc with rfl | rfl | rfl | rfl | rfl | rfl | rfl | rfl | rfl | rfl | rfl | rfl
 · rw [say_w]
   exact said_w p x cp cs w hP hK h.by_ h.dl
 · rw [say_m]
   exact said_m p x cp cs w hP hK (Nat.le_trans hz (by omega)) hT
 · rw [say_x]
   exact said_x p x cp cs w hP hK h.by_ h.dl
 · rw [say_b]
   exact said_b p x cp cs w hP hK
 · rw [say_n]
   exact said_n p x cp cs w hP hK
 · rw [say_s]
   exact said_s p x cp cs w hP hK h.bd h.ll
 · rw [say_d]
   exact said_d p x cp cs w hP hK h.d.1 h.d.2 (Nat.le_trans (h.nm _) (by omega)) hT
 · rw [say_t]
   exact said_t p x cp cs w hP hK h.t.1 h.t.2 (Nat.le_trans (h.nm _) (by omega)) hT
 · rw [say_k]
   exact said_k p x cp cs w hP hK
 · rw [say_i]
   exact said_i p x cp cs w hP hK
 · rw [say_r]
   exact said_r p x cp cs w hP hK h.lo.1 h.lo.2 h.hi.1 h.hi.2
 · rw [say_p]
   exact said_p p x cp cs w hP hK h.pk
theorem r_text (p : Plan) (x : Act) (cp cs : List Value) (w : World) (hP : k25.K w p cp) (hK : k34.K w x cs) (h : SayOk p.f2 x) (c : UInt8) (hc : c ∈ lets) :
 Calls Tryz.prog 31 #[.agg cp.toArray, .agg cs.toArray, .int .i32 ((c.toNat : Nat) : Int)] w (StrB (sayB p.f2 x ((c.toNat : Nat) : Int)) w) := by
 have hz : (strOfNums x.f10).size <= 1048576 := by rw [strOfNums_size]; exact h.dl
 unfold lets at hc
 simp only [List.mem_cons, List.not_mem_nil, or_false] at hc
 rcases hc with rfl | rfl | rfl | rfl | rfl | rfl | rfl | rfl | rfl | rfl | rfl | rfl
 · rw [say_w]
   exact text_w p x cp cs w hP hK h.by_ h.dl
 · rw [say_m]
   exact text_m p x cp cs w hP hK (Nat.le_trans hz (by omega))
 · rw [say_x]
   exact text_x p x cp cs w hP hK h.by_ h.dl
 · rw [say_b]
   exact text_b p x cp cs w hP hK
 · rw [say_n]
   exact text_n p x cp cs w hP hK
 · rw [say_s]
   exact text_s p x cp cs w hP hK h.bd h.ll
 · rw [say_d]
   exact text_d p x cp cs w hP hK h.d.1 h.d.2 (Nat.le_trans (h.nm _) (by omega))
 · rw [say_t]
   exact text_t p x cp cs w hP hK h.t.1 h.t.2 (Nat.le_trans (h.nm _) (by omega))
 · rw [say_k]
   exact text_k p x cp cs w hP hK
 · rw [say_i]
   exact text_i p x cp cs w hP hK
 · rw [say_r]
   exact text_r p x cp cs w hP hK h.lo.1 h.lo.2 h.hi.1 h.hi.2
 · rw [say_p]
   exact text_p p x cp cs w hP hK h.pk
theorem Bx.iter {w W : World} {g : Nat} {cs : List Value} {t : TypeId} (h : Bx w W g cs t) {k pos : Nat} {s : ByteArray} (hk : W.heap[k]? = some (.stringIter s pos)) (hge : w.heap.size <= k) (q : Nat) : Bx w (W.iterAt k s q) g cs t :=
 ⟨(Lib.iterAt_other W k g s q (by rintro rfl; rw [h.row] at hk; cases hk)).trans h.row, Lib.below_iterAt h.hb hge s q⟩
theorem HX.iter {w W : World} {tp ta : TypeId} {pb xb : Nat} {p0 p1 p2 p3 c0 c1 c2 c3 c4 c5 c6 c7 c8 c9 c10 c11 c12 : Value} (h : HX w tp ta pb xb p0 p1 p2 p3 c0 c1 c2 c3 c4 c5 c6 c7 c8 c9 c10 c11 c12 W) {k pos : Nat} {s : ByteArray} (hk : W.heap[k]? = some (.stringIter s pos)) (hge : w.heap.size <= k) (q : Nat) : HX w tp ta pb xb p0 p1 p2 p3 c0 c1 c2 c3 c4 c5 c6 c7 c8 c9 c10 c11 c12 (W.iterAt k s q) :=
 hx_mk (h.p.iter hk hge q) (h.x.iter hk hge q)
def StrE (s : ByteArray) (n : Int) (w : World) : Ending -> World -> Prop := fun e w' => e = .returned (.tuple #[.string s, .int .i64 n]) /\ Below w.heap.size w w'
theorem ref_name (d : Int) : liveryref27_Name.f d = some (rowOf d).1 := rfl
theorem r_RName (d : Int) (w : World) : Calls Tryz.prog 29 #[.int .i64 d] w fun e w' => e = .returned (.string (rowOf d).1) /\ Below w.heap.size w w' := liveryref27_Name.calls d _ w (ref_name d)
theorem c_line (p : Plan) (x : Act) (cp cs : List Value) (w : World) (hP : k25.K w p cp) (hK : k34.K w x cs) (h : SayOk p.f2 x) (hT : Lib.Utf8Tabs 1 2 w) :
 Calls Tryz.prog 26 #[.agg cp.toArray, .agg cs.toArray] w (StrB (lineB p.f2 x) w) := by
 have cn := Lib.hid (c_SName x.f0)
 have ch := Lib.hid (c_Has x.f0)
 have ca := Lib.hid (row_ascii x.f0)
 have cl := Lib.hid (row_lets x.f0)
 have hrz := row_sizes x.f0
 have hnz : (rowOf x.f0).1.size <= 20 + 1073741825 * 0 := hrz.2
 have cz := Lib.hid (sayB_size h)
 have cW := Lib.hid (fun W (hW : Below w.heap.size w W) c hc => c_said p x cp cs W (k25.K_below hW hP) (k34.K_below hW hK) h (Utf8Tabs_below hT hW) c hc)
 have P0 := Zz.mk ((Bx.new w cp 25).push (.cells cs.toArray 34))
 have X0 := Zz.mk ((Bx.new w cp 25).on cs 34 |>.at_ (show _ = w.heap.size + 1 by simp))
 obtain ⟨R, hR⟩ : ∃ R, lineB p.f2 x = R := ⟨_, rfl⟩
 rw [hR]
 unfold lineB at hR
 have HR := Lib.hid hR
 obtain ⟨A4, c4, A11, c11, A12, c12, rfl, l4, g4, l11, g11, l12, g12⟩ := k34_open hK
 obtain ⟨B2, d2, B3, d3, rfl, m2, e2, m3, e3⟩ := k25_open hP
 have HZ := Zz.mk (hx_mk P0.out X0.out)
 clear P0 X0 hP hK g4 g11 g12 l4 l11 l12 m2 e2 m3 e3 hR h hT
 generalize (rowOf x.f0).1 = nm at *
 generalize (rowOf x.f0).2 = hs at *
 obtain ⟨q0, q1, q2, q3, q4, q5, q6, q7, q8, q9, q10, q11, q12⟩ := cxs13 HZ.out.x
 obtain ⟨r0, r1, r2, r3⟩ := cxs4 HZ.out.p
 go_enter Tryz.func26, Tryz.ntmps26
 go_wp2_with (first
  | (go_at_call 63
     with_reducible refine (cn.out _).mono ?_
     rintro e v1 ⟨rfl, hbz⟩
     replace HZ := Zz.mk (HZ.out.next hbz)
     clear hbz
     obtain ⟨q0, q1, q2, q3, q4, q5, q6, q7, q8, q9, q10, q11, q12⟩ := cxs13 HZ.out.x
     have r0 := HZ.out.p.c 0
     have r1 := HZ.out.p.c 1
     have r2 := HZ.out.p.c 2
     have r3 := HZ.out.p.c 3)
  | (go_at_call 36
     with_reducible refine (ch.out _).mono ?_
     rintro e v2 ⟨rfl, hbz⟩
     have HZ2 := Zz.mk (HZ.out.next hbz)
     clear hbz)
  | fail)
 go_loopw [5] (fun v5 wr => ∃ (pos : Nat) (acc : ByteArray), pos <= hs.size /\ v5 = .string acc /\ acc.size <= 20 + 1073741825 * pos /\ wr.heap[v2.heap.size]? = some (.stringIter hs pos) /\ Zz ((hs.data.toList.drop pos).foldl (lineF p.f2 x) acc = R) /\ Zz (HX w 25 34 w.heap.size (w.heap.size + 1) (.int .i64 p.f0) (.int .i64 p.f1) (.slice B2 p.f2.length d2) (.slice B3 p.f3.length d3) (.int .i64 x.f0) (.int .i64 x.f1) (.int .i64 x.f2) (.int .i64 x.f3) (.slice A4 x.f4.length c4) (.int .u32 x.f5) (.int .u32 x.f6) (.int .u32 x.f7) (.int .u64 x.f8.f0) (.int .u64 x.f8.f1) (.int .i64 x.f9) (.slice A11 x.f10.length c11) (.slice A12 x.f11.length c12) wr)) (fun _ wr => hs.size - wr.iterPos v2.heap.size)
 case atStart => exact ⟨0, nm, by omega, rfl, hnz, iter_new v2 hs, ⟨HR.out⟩, ⟨HZ2.out.next ((Below.refl _ _).alloc (Nat.le_refl _) _)⟩⟩
 case round =>
  have hge : w.heap.size <= v2.heap.size := HZ2.out.x.hb.size
  clear HZ HZ2 q0 q1 q2 q3 q4 q5 q6 q7 q8 q9 q10 q11 q12 r0 r1 r2 r3
  obtain ⟨pos, acc, hpl, rfl, hac, hit, HG, HZ⟩ := hrel
  by_cases hp : pos < hs.size
  · have hnx := fun ty => Lib.run_next_ascii_at (P := Tryz.prog) wr v2.heap.size hs pos ty hit hp (ca.out pos hp)
    have HG1 := HG.out
    rw [row_drop hs pos hp, List.foldl_cons] at HG1
    have hmem : hs[pos] ∈ lets := cl.out _ (by rw [List.mem_iff_getElem]; exact ⟨pos, by rw [Array.length_toList]; exact hp, rfl⟩)
    have cS := Lib.hid (fun W (hW : Below w.heap.size w W) => cW.out W hW hs[pos] hmem)
    have hz := cz.out ((hs[pos].toNat : Nat) : Int)
    unfold lineF at HG1
    have HI := Zz.mk (Lib.iterAt_heap wr v2.heap.size hs pos (pos + 1) hit)
    replace HZ := Zz.mk (HZ.out.iter hit hge (pos + 1))
    have HMM : Zz (hs.size - (pos + 1) < hs.size - wr.iterPos v2.heap.size) := ⟨by rw [iterPos_of hit]; omega⟩
    have hsz : pos < 9 := by omega
    clear HG hmem
    generalize hs[pos] = c at *
    generalize sayB p.f2 x ((c.toNat : Nat) : Int) = sv at *
    have f1 : 1 + sv.size <= 9223372036854775807 := by omega
    have fz : (⟨#[32]⟩ ++ sv : ByteArray).size <= 1073741825 := by rw [ByteArray.size_append]; show 1 + _ <= _; omega
    have f2 : acc.size + (⟨#[32]⟩ ++ sv : ByteArray).size <= 9223372036854775807 := by omega
    have FZ : Zz ((acc ++ (⟨#[32]⟩ ++ sv)).size <= 20 + 1073741825 * (pos + 1)) := ⟨by have h9 : (acc ++ (⟨#[32]⟩ ++ sv)).size = acc.size + (⟨#[32]⟩ ++ sv : ByteArray).size := ByteArray.size_append; omega⟩
    have HG3 := Zz.mk HG1
    clear HG1 fz
    generalize wr.iterAt v2.heap.size hs (pos + 1) = wi at *
    obtain ⟨q0, q1, q2, q3, q4, q5, q6, q7, q8, q9, q10, q11, q12⟩ := cxs13 HZ.out.x
    obtain ⟨r0, r1, r2, r3⟩ := cxs4 HZ.out.p
    go_wp2_with (first
     | (go_at_call 67
        with_reducible refine (cS.out _ HZ.out.x.hb).mono ?_
        rintro e v3 ⟨rfl, hbz⟩
        have HI3 := Zz.mk ((hbz.block v2.heap.size (Array.getElem?_eq_some_iff.1 HI.out).1).trans HI.out)
        replace HZ := Zz.mk (HZ.out.next hbz)
        clear hbz)
     | fail)
    go_roundw
    case rel => exact ⟨pos + 1, _, by omega, rfl, FZ.out, HI3.out, HG3, HZ⟩
    case measure => rw [iterPos_of HI3.out]; exact HMM.out
  · have hnx := fun ty => Lib.run_next_end_at (P := Tryz.prog) wr v2.heap.size hs pos ty hit hp
    obtain rfl : acc = R := by
     have := HG.out
     rw [List.drop_of_length_le (by rw [Array.length_toList]; show hs.size <= pos; omega)] at this
     exact this
    clear HG
    go_wp2
    go_ret
    exact ⟨rfl, HZ.out.x.hb⟩
theorem r_LineNo (p : Plan) (x : Act) (cp cs : List Value) (w : World) (hP : k25.K w p cp) (hK : k34.K w x cs) (hp : PlanBd p) (hx : ActBd x) (hsm : ∀ i, (p.f2.getD i ByteArray.empty).size <= 1073741824) (hno : (headedS p.f0 p.f1 p.f2 && mayR p.f2.length x) = false) :
 Calls Tryz.prog 12 #[.agg cp.toArray, .agg cs.toArray] w (StrE ⟨#[]⟩ 270 w) := by
 have cH := Lib.hid (fun W (hW : Below w.heap.size w W) => r_head p cp W (k25.K_below hW hP) hp hsm)
 have cM := Lib.hid (fun W (hW : Below w.heap.size w W) => r_may p x cp cs W (k25.K_below hW hP) (k34.K_below hW hK) hx)
 have P0 := Zz.mk ((Bx.new w cp 25).push (.cells cs.toArray 34))
 have X0 := Zz.mk ((Bx.new w cp 25).on cs 34 |>.at_ (show _ = w.heap.size + 1 by simp))
 obtain ⟨A4, c4, A11, c11, A12, c12, rfl, l4, g4, l11, g11, l12, g12⟩ := k34_open hK
 obtain ⟨B2, d2, B3, d3, rfl, m2, e2, m3, e3⟩ := k25_open hP
 have HZ := Zz.mk (hx_mk P0.out X0.out)
 clear P0 X0 hP hK g4 g11 g12 l4 l11 l12 m2 e2 m3 e3 hp hx hsm
 generalize headedS p.f0 p.f1 p.f2 = bH at *
 generalize mayR p.f2.length x = bM at *
 obtain ⟨q0, q1, q2, q3, q4, q5, q6, q7, q8, q9, q10, q11, q12⟩ := cxs13 HZ.out.x
 obtain ⟨r0, r1, r2, r3⟩ := cxs4 HZ.out.p
 cases bH with
 | false =>
   clear hno cM
   go_enter Tryz.func12, Tryz.ntmps12
   go_wp2_with (first
   | (go_at_call 27
      with_reducible refine (cH.out _ HZ.out.x.hb).mono ?_
      rintro e v ⟨rfl, hb⟩
      replace HZ := Zz.mk (HZ.out.next hb)
      clear hb
      obtain ⟨q0, q1, q2, q3, q4, q5, q6, q7, q8, q9, q10, q11, q12⟩ := cxs13 HZ.out.x
      have r0 := HZ.out.p.c 0
      have r1 := HZ.out.p.c 1
      have r2 := HZ.out.p.c 2
      have r3 := HZ.out.p.c 3)
   | (go_at_call 28
      with_reducible refine (cM.out _ HZ.out.x.hb).mono ?_
      rintro e v ⟨rfl, hb⟩
      replace HZ := Zz.mk (HZ.out.next hb)
      clear hb
      obtain ⟨q0, q1, q2, q3, q4, q5, q6, q7, q8, q9, q10, q11, q12⟩ := cxs13 HZ.out.x
      have r0 := HZ.out.p.c 0
      have r1 := HZ.out.p.c 1
      have r2 := HZ.out.p.c 2
      have r3 := HZ.out.p.c 3)
   | fail)
   go_ret2
   exact ⟨rfl, HZ.out.x.hb⟩
 | true =>
   obtain rfl : bM = false := by simpa using hno
   clear hno
   go_enter Tryz.func12, Tryz.ntmps12
   go_wp2_with (first
   | (go_at_call 27
      with_reducible refine (cH.out _ HZ.out.x.hb).mono ?_
      rintro e v ⟨rfl, hb⟩
      replace HZ := Zz.mk (HZ.out.next hb)
      clear hb
      obtain ⟨q0, q1, q2, q3, q4, q5, q6, q7, q8, q9, q10, q11, q12⟩ := cxs13 HZ.out.x
      have r0 := HZ.out.p.c 0
      have r1 := HZ.out.p.c 1
      have r2 := HZ.out.p.c 2
      have r3 := HZ.out.p.c 3)
   | (go_at_call 28
      with_reducible refine (cM.out _ HZ.out.x.hb).mono ?_
      rintro e v ⟨rfl, hb⟩
      replace HZ := Zz.mk (HZ.out.next hb)
      clear hb
      obtain ⟨q0, q1, q2, q3, q4, q5, q6, q7, q8, q9, q10, q11, q12⟩ := cxs13 HZ.out.x
      have r0 := HZ.out.p.c 0
      have r1 := HZ.out.p.c 1
      have r2 := HZ.out.p.c 2
      have r3 := HZ.out.p.c 3)
   | fail)
   go_ret2
   exact ⟨rfl, HZ.out.x.hb⟩
theorem r_LineYes (p : Plan) (x : Act) (cp cs : List Value) (w : World) (hP : k25.K w p cp) (hK : k34.K w x cs) (hp : PlanBd p) (hx : ActBd x) (hsm : ∀ i, (p.f2.getD i ByteArray.empty).size <= 1073741824) (hh : headedS p.f0 p.f1 p.f2 = true) (hm : mayR p.f2.length x = true) (h : SayOk p.f2 x) :
 Calls Tryz.prog 12 #[.agg cp.toArray, .agg cs.toArray] w (StrE (lineB p.f2 x) 0 w) := by
 have cH := fun W (hW : Below w.heap.size w W) => r_head p cp W (k25.K_below hW hP) hp hsm
 have cM := fun W (hW : Below w.heap.size w W) => r_may p x cp cs W (k25.K_below hW hP) (k34.K_below hW hK) hx
 rw [hh] at cH
 rw [hm] at cM
 replace cH := Lib.hid cH
 replace cM := Lib.hid cM
 have cn := Lib.hid (r_RName x.f0)
 have ch := Lib.hid (r_Has x.f0)
 have ca := Lib.hid (row_ascii x.f0)
 have cl := Lib.hid (row_lets x.f0)
 have hrz := row_sizes x.f0
 have hnz : (rowOf x.f0).1.size <= 20 + 1073741825 * 0 := hrz.2
 have cz := Lib.hid (sayB_size h)
 have cW := Lib.hid (fun W (hW : Below w.heap.size w W) c hc => r_text p x cp cs W (k25.K_below hW hP) (k34.K_below hW hK) h c hc)
 have P0 := Zz.mk ((Bx.new w cp 25).push (.cells cs.toArray 34))
 have X0 := Zz.mk ((Bx.new w cp 25).on cs 34 |>.at_ (show _ = w.heap.size + 1 by simp))
 obtain ⟨R, hR⟩ : ∃ R, lineB p.f2 x = R := ⟨_, rfl⟩
 rw [hR]
 unfold lineB at hR
 have HR := Lib.hid hR
 obtain ⟨A4, c4, A11, c11, A12, c12, rfl, l4, g4, l11, g11, l12, g12⟩ := k34_open hK
 obtain ⟨B2, d2, B3, d3, rfl, m2, e2, m3, e3⟩ := k25_open hP
 have HZ := Zz.mk (hx_mk P0.out X0.out)
 clear P0 X0 hP hK g4 g11 g12 l4 l11 l12 m2 e2 m3 e3 hR h hp hx hsm hh hm
 generalize (rowOf x.f0).1 = nm at *
 generalize (rowOf x.f0).2 = hs at *
 obtain ⟨q0, q1, q2, q3, q4, q5, q6, q7, q8, q9, q10, q11, q12⟩ := cxs13 HZ.out.x
 obtain ⟨r0, r1, r2, r3⟩ := cxs4 HZ.out.p
 go_enter Tryz.func12, Tryz.ntmps12
 go_wp2_with (first
  | (go_at_call 27
     with_reducible refine (cH.out _ HZ.out.x.hb).mono ?_
     rintro e v ⟨rfl, hb⟩
     replace HZ := Zz.mk (HZ.out.next hb)
     clear hb
     obtain ⟨q0, q1, q2, q3, q4, q5, q6, q7, q8, q9, q10, q11, q12⟩ := cxs13 HZ.out.x
     have r0 := HZ.out.p.c 0
     have r1 := HZ.out.p.c 1
     have r2 := HZ.out.p.c 2
     have r3 := HZ.out.p.c 3)
  | (go_at_call 28
     with_reducible refine (cM.out _ HZ.out.x.hb).mono ?_
     rintro e v ⟨rfl, hb⟩
     replace HZ := Zz.mk (HZ.out.next hb)
     clear hb
     obtain ⟨q0, q1, q2, q3, q4, q5, q6, q7, q8, q9, q10, q11, q12⟩ := cxs13 HZ.out.x
     have r0 := HZ.out.p.c 0
     have r1 := HZ.out.p.c 1
     have r2 := HZ.out.p.c 2
     have r3 := HZ.out.p.c 3)
  | (go_at_call 29
     with_reducible refine (cn.out _).mono ?_
     rintro e v1 ⟨rfl, hbz⟩
     replace HZ := Zz.mk (HZ.out.next hbz)
     clear hbz
     obtain ⟨q0, q1, q2, q3, q4, q5, q6, q7, q8, q9, q10, q11, q12⟩ := cxs13 HZ.out.x
     have r0 := HZ.out.p.c 0
     have r1 := HZ.out.p.c 1
     have r2 := HZ.out.p.c 2
     have r3 := HZ.out.p.c 3)
  | (go_at_call 30
     with_reducible refine (ch.out _).mono ?_
     rintro e v2 ⟨rfl, hbz⟩
     have HZ2 := Zz.mk (HZ.out.next hbz)
     clear hbz)
  | fail)
 go_loopw [6] (fun v5 wr => ∃ (pos : Nat) (acc : ByteArray), pos <= hs.size /\ v5 = .string acc /\ acc.size <= 20 + 1073741825 * pos /\ wr.heap[v2.heap.size]? = some (.stringIter hs pos) /\ Zz ((hs.data.toList.drop pos).foldl (lineF p.f2 x) acc = R) /\ Zz (HX w 25 34 w.heap.size (w.heap.size + 1) (.int .i64 p.f0) (.int .i64 p.f1) (.slice B2 p.f2.length d2) (.slice B3 p.f3.length d3) (.int .i64 x.f0) (.int .i64 x.f1) (.int .i64 x.f2) (.int .i64 x.f3) (.slice A4 x.f4.length c4) (.int .u32 x.f5) (.int .u32 x.f6) (.int .u32 x.f7) (.int .u64 x.f8.f0) (.int .u64 x.f8.f1) (.int .i64 x.f9) (.slice A11 x.f10.length c11) (.slice A12 x.f11.length c12) wr)) (fun _ wr => hs.size - wr.iterPos v2.heap.size)
 case atStart => exact ⟨0, nm, by omega, rfl, hnz, iter_new v2 hs, ⟨HR.out⟩, ⟨HZ2.out.next ((Below.refl _ _).alloc (Nat.le_refl _) _)⟩⟩
 case round =>
  have hge : w.heap.size <= v2.heap.size := HZ2.out.x.hb.size
  clear HZ HZ2 q0 q1 q2 q3 q4 q5 q6 q7 q8 q9 q10 q11 q12 r0 r1 r2 r3
  obtain ⟨pos, acc, hpl, rfl, hac, hit, HG, HZ⟩ := hrel
  by_cases hp : pos < hs.size
  · have hnx := fun ty => Lib.run_next_ascii_at (P := Tryz.prog) wr v2.heap.size hs pos ty hit hp (ca.out pos hp)
    have HG1 := HG.out
    rw [row_drop hs pos hp, List.foldl_cons] at HG1
    have hmem : hs[pos] ∈ lets := cl.out _ (by rw [List.mem_iff_getElem]; exact ⟨pos, by rw [Array.length_toList]; exact hp, rfl⟩)
    have cS := Lib.hid (fun W (hW : Below w.heap.size w W) => cW.out W hW hs[pos] hmem)
    have hz := cz.out ((hs[pos].toNat : Nat) : Int)
    unfold lineF at HG1
    have HI := Zz.mk (Lib.iterAt_heap wr v2.heap.size hs pos (pos + 1) hit)
    replace HZ := Zz.mk (HZ.out.iter hit hge (pos + 1))
    have HMM : Zz (hs.size - (pos + 1) < hs.size - wr.iterPos v2.heap.size) := ⟨by rw [iterPos_of hit]; omega⟩
    have hsz : pos < 9 := by omega
    clear HG hmem
    generalize hs[pos] = c at *
    generalize sayB p.f2 x ((c.toNat : Nat) : Int) = sv at *
    have f1 : 1 + sv.size <= 9223372036854775807 := by omega
    have fz : (⟨#[32]⟩ ++ sv : ByteArray).size <= 1073741825 := by rw [ByteArray.size_append]; show 1 + _ <= _; omega
    have f2 : acc.size + (⟨#[32]⟩ ++ sv : ByteArray).size <= 9223372036854775807 := by omega
    have FZ : Zz ((acc ++ (⟨#[32]⟩ ++ sv)).size <= 20 + 1073741825 * (pos + 1)) := ⟨by have h9 : (acc ++ (⟨#[32]⟩ ++ sv)).size = acc.size + (⟨#[32]⟩ ++ sv : ByteArray).size := ByteArray.size_append; omega⟩
    have HG3 := Zz.mk HG1
    clear HG1 fz
    generalize wr.iterAt v2.heap.size hs (pos + 1) = wi at *
    obtain ⟨q0, q1, q2, q3, q4, q5, q6, q7, q8, q9, q10, q11, q12⟩ := cxs13 HZ.out.x
    obtain ⟨r0, r1, r2, r3⟩ := cxs4 HZ.out.p
    go_wp2_with (first
     | (go_at_call 31
        with_reducible refine (cS.out _ HZ.out.x.hb).mono ?_
        rintro e v3 ⟨rfl, hbz⟩
        have HI3 := Zz.mk ((hbz.block v2.heap.size (Array.getElem?_eq_some_iff.1 HI.out).1).trans HI.out)
        replace HZ := Zz.mk (HZ.out.next hbz)
        clear hbz)
     | fail)
    go_roundw
    case rel => exact ⟨pos + 1, _, by omega, rfl, FZ.out, HI3.out, HG3, HZ⟩
    case measure => rw [iterPos_of HI3.out]; exact HMM.out
  · have hnx := fun ty => Lib.run_next_end_at (P := Tryz.prog) wr v2.heap.size hs pos ty hit hp
    obtain rfl : acc = R := by
     have := HG.out
     rw [List.drop_of_length_le (by rw [Array.length_toList]; show hs.size <= pos; omega)] at this
     exact this
    clear HG
    go_wp2
    go_ret2
    exact ⟨rfl, HZ.out.x.hb⟩
structure PrintOk (p : Plan) : Prop where
 bd : PlanBd p
 nm : ∀ i, (p.f2.getD i ByteArray.empty).size <= 1000
 ac : p.f3.length <= 400
 say : checkS p = true -> ∀ i, i < p.f3.length -> SayOk p.f2 (p.f3.getD i z34)
def HP1 (w : World) (t : TypeId) (g : Nat) (p0 p1 p2 p3 : Value) (W : World) : Prop := W.cell? ⟨g, 0, none⟩ = some p0 /\ W.cell? ⟨g, 1, none⟩ = some p1 /\ W.cell? ⟨g, 2, none⟩ = some p2 /\ W.cell? ⟨g, 3, none⟩ = some p3 /\ Zz (Bx w W g [p0, p1, p2, p3] t)
theorem hp1_mk {w W : World} {t : TypeId} {g : Nat} {p0 p1 p2 p3 : Value} (h : Bx w W g [p0, p1, p2, p3] t) : HP1 w t g p0 p1 p2 p3 W := ⟨h.c 0, h.c 1, h.c 2, h.c 3, ⟨h⟩⟩
theorem HP1.b {w W : World} {t : TypeId} {g : Nat} {p0 p1 p2 p3 : Value} (h : HP1 w t g p0 p1 p2 p3 W) : Bx w W g [p0, p1, p2, p3] t := h.2.2.2.2.out
theorem HP1.next {w W W' : World} {t : TypeId} {g : Nat} {p0 p1 p2 p3 : Value} (h : HP1 w t g p0 p1 p2 p3 W) (hb : Below W.heap.size W W') : HP1 w t g p0 p1 p2 p3 W' := hp1_mk (h.b.next hb)
theorem say_ok {l : List ByteArray} {x : Act} (hl : ∀ i, (l.getD i ByteArray.empty).size <= 1048576) (hx : ActOk x) (hm : muchS x = false) (h : mayS l.length x = true) : SayOk l x := by
 unfold muchS at hm
 simp only [Bool.or_eq_false_iff, decide_eq_false_iff_not] at hm
 rw [may_eq] at h
 unfold mayR b4R at h
 simp only [Bool.and_eq_true, Bool.not_eq_true', Bool.or_eq_false_iff, decide_eq_false_iff_not] at h
 obtain ⟨_, _, _, _, ⟨h1, h2, _, h3, h4, _⟩, _⟩ := h
 exact ⟨by omega, by omega, hl, hx.by_, by omega, by omega, by omega, hx.rg.1, hx.rg.2, hx.bd⟩
def putsS (nl : List ByteArray) (cs : List UInt8) (s : Act × List ByteArray) : Act × List ByteArray := cs.foldl (fun s c => putS nl ((c.toNat : Nat) : Int) s.2 s.1) s
def readS (nl : List ByteArray) (ws : List ByteArray) : Act := (putsS nl (rowOf (ExtQ.rowI (ws.headD ⟨#[]⟩))).2.data.toList ({ z34 with f0 := ExtQ.rowI (ws.headD ⟨#[]⟩) }, ws.tail)).1
def actS (p : Plan) (t : ByteArray) : Option Act :=
 match ExtQ.wordsS t with
 | none => none
 | some ws => if headedS p.f0 p.f1 p.f2 = true /\ 1 <= ExtQ.rowI (ws.headD ⟨#[]⟩) /\ mayS p.f2.length (readS p.f2 ws) = true /\ lineB p.f2 (readS p.f2 ws) = t then some (readS p.f2 ws) else none
def ActP (r : Option Act) (w : World) (e : Ending) (w' : World) : Prop := (∃ cs, e = .returned (.tuple #[.agg cs.toArray, .int .i64 (if r.isSome = true then 0 else 270)]) /\ k34.K w' (r.getD z34) cs) /\ Below w.heap.size w w'
structure ReadOk (x : Act) : Prop where
 lo : 0 <= x.f8.f0 /\ x.f8.f0 < 18446744073709551616
 hi : 0 <= x.f8.f1 /\ x.f8.f1 < 18446744073709551616
 by_ : Bytes x.f10
 bd : ActBd x
theorem code_bd (n : ByteArray) : u32P (ExtP.codeS n).2.1 := by
 unfold ExtP.codeS
 split
 · exact ⟨by simp, by simp⟩
 · split
   · exact ⟨by simp, by simp⟩
   · rename_i c h
     have hm := List.mem_of_find?_eq_some h
     by_cases hk : ExtP.kindOf n = 1 \/ ExtP.kindOf n = 2 \/ ExtP.kindOf n = 3
     · exact ExtP.codesOf_bd _ hk _ hm
     · unfold ExtP.codesOf at hm
       rw [if_neg hk] at hm
       cases hm
theorem bytes_bytesOf (s : ByteArray) : Bytes (bytesOf s) := by
 intro x hx
 unfold bytesOf at hx
 rw [List.mem_map] at hx
 obtain ⟨b, _, rfl⟩ := hx
 have := b.toNat_lt
 omega
theorem num_bd (s : ByteArray) : 0 <= ExtQ.numOf s /\ ExtQ.numOf s < 18446744073709551616 := numS_bd s
theorem u64z : 0 <= (0 : Int) /\ (0 : Int) < 18446744073709551616 := ⟨by omega, by omega⟩
theorem u32z : u32P 0 := ⟨by omega, by omega⟩
theorem lv_map (l : List ByteArray) : lvBd (l.map lvOf) := by
 intro i
 rw [List.getD_eq_getElem?_getD, List.getElem?_map]
 cases l[i]? with
 | none => exact ⟨u32z, u32z⟩
 | some s => exact ⟨code_bd _, code_bd _⟩
theorem setsR_bd (l : List ByteArray) : lvBd (setsR l).2.1 /\ u32P (setsR l).2.2 := by
 unfold setsR
 split
 · exact ⟨fun i => by exact ⟨u32z, u32z⟩, code_bd _⟩
 · exact ⟨lv_map _, u32z⟩
theorem putS_ok {nl : List ByteArray} {c : Int} {l : List ByteArray} {x : Act} (h : ReadOk x) : ReadOk (putS nl c l x).1 := by
 obtain ⟨h1, h2, h3, h4⟩ := h
 unfold putS
 by_cases c0 : c = 100
 · rw [if_pos c0]; exact ⟨h1, h2, h3, ⟨h4.lv, h4.xm⟩⟩
 rw [if_neg c0]
 by_cases c1 : c = 116
 · rw [if_pos c1]; exact ⟨h1, h2, h3, ⟨h4.lv, h4.xm⟩⟩
 rw [if_neg c1]
 by_cases c2 : c = 107
 · rw [if_pos c2]; exact ⟨h1, h2, h3, ⟨h4.lv, h4.xm⟩⟩
 rw [if_neg c2]
 by_cases c3 : c = 105
 · rw [if_pos c3]; exact ⟨h1, h2, h3, ⟨h4.lv, h4.xm⟩⟩
 rw [if_neg c3]
 by_cases c4 : c = 98
 · rw [if_pos c4]; exact ⟨h1, h2, h3, ⟨h4.lv, h4.xm⟩⟩
 rw [if_neg c4]
 by_cases c5 : c = 110
 · rw [if_pos c5]; exact ⟨h1, h2, h3, ⟨h4.lv, h4.xm⟩⟩
 rw [if_neg c5]
 by_cases c6 : c = 119
 · rw [if_pos c6]; exact ⟨h1, h2, (unhexS_bytes _).1, ⟨h4.lv, h4.xm⟩⟩
 rw [if_neg c6]
 by_cases c7 : c = 120
 · rw [if_pos c7]; exact ⟨h1, h2, (unhexS_bytes _).1, ⟨h4.lv, h4.xm⟩⟩
 rw [if_neg c7]
 by_cases c8 : c = 109
 · rw [if_pos c8]; exact ⟨h1, h2, bytes_bytesOf _, ⟨h4.lv, h4.xm⟩⟩
 rw [if_neg c8]
 by_cases c9 : c = 114
 · rw [if_pos c9]; exact ⟨num_bd _, num_bd _, h3, ⟨h4.lv, h4.xm⟩⟩
 rw [if_neg c9]
 by_cases c10 : c = 115
 · rw [if_pos c10]; exact ⟨h1, h2, h3, ⟨(setsR_bd l).1, (setsR_bd l).2⟩⟩
 rw [if_neg c10]
 exact ⟨h1, h2, h3, ⟨h4.lv, h4.xm⟩⟩
theorem putsS_ok {nl : List ByteArray} (cs : List UInt8) : ∀ {s : Act × List ByteArray}, ReadOk s.1 -> ReadOk (putsS nl cs s).1 := by
 induction cs with
 | nil => intro s h; exact h
 | cons c t ih => intro s h; exact ih (putS_ok h)
theorem readS_ok (nl ws : List ByteArray) : ReadOk (readS nl ws) := putsS_ok _ ⟨u64z, u64z, fun x h => (by cases h), ⟨fun i => by exact ⟨u32z, u32z⟩, u32z⟩⟩
theorem say_may {l : List ByteArray} {x : Act} (hl : ∀ i, (l.getD i ByteArray.empty).size <= 1048576) (hx : ReadOk x) (h : mayS l.length x = true) : SayOk l x := by
 have h' := h
 rw [may_eq] at h
 unfold mayR b4R at h
 simp only [Bool.and_eq_true, Bool.not_eq_true', Bool.or_eq_false_iff, decide_eq_false_iff_not] at h
 obtain ⟨_, hd, _, _, ⟨h1, h2, _, h3, h4, _⟩, _, hpk⟩ := h
 unfold mayS at h'
 simp only [Bool.and_eq_true] at h'
 obtain ⟨_, hk, hs, _⟩ := h'
 have hdl : x.f10.length <= 1048576 := by
  unfold dataR at hd
  split at hd
  · simp only [Bool.and_eq_true, decide_eq_true_eq] at hd; omega
  · split at hd
    · simp only [decide_eq_true_eq] at hd; omega
    · split at hd
      · simp only [Bool.and_eq_true, decide_eq_true_eq] at hd; omega
      · simp only [decide_eq_true_eq] at hd; omega
 have hpl : x.f11.length <= 1048576 := by
  simp only [Bool.or_eq_true, Bool.and_eq_true, decide_eq_true_eq] at hpk
  omega
 have hll : x.f4.length <= 1048576 := by
  unfold keyedS setsS hssS at hk
  split at hk
  · split at hk
    · simp only [Bool.and_eq_true, decide_eq_true_eq] at hk
      omega
    · split at hk
      · simp only [Bool.and_eq_true, decide_eq_true_eq] at hk
        omega
      · cases hk
  · simp only [Bool.and_eq_true, decide_eq_true_eq] at hk
    omega
 exact ⟨by omega, by omega, hl, hx.by_, hdl, hpl, hll, hx.lo, hx.hi, hx.bd⟩
theorem quoteP_ge (s : ByteArray) (pos : Nat) (h : pos < s.size) : (Utf8.decode s pos).2 <= (quoteP s (pos, (Utf8.decode s pos).1, (Utf8.decode s pos).2)).length := by
 have hlow := rune_low s pos h
 have hwl := width_le s pos h
 unfold quoteP
 split
 · rename_i hc
   have := (hlow (by simp only at hc; omega)).1
   simp; omega
 · split
   · rename_i hc
     simp only at hc
     rcases hc with hc | hc | hc
     · have := (hlow (by omega)).1; simp; omega
     · have := (hlow (by omega)).1; simp; omega
     · simp; omega
   · simp only [bytesOf, List.length_map, Array.length_toList]
     have : (s.extract pos (pos + (Utf8.decode s pos).2)).data.size = (Utf8.decode s pos).2 := by
      show (s.extract pos (pos + (Utf8.decode s pos).2)).size = _
      rw [ByteArray.size_extract]; omega
     omega
theorem quoteF_ge (s : ByteArray) : ∀ f pos, s.size <= pos + f -> s.size - pos <= (quoteF s (rns s f pos)).length := by
 intro f
 induction f with
 | zero => intro pos h; omega
 | succ f ih =>
   intro pos h
   unfold rns
   split
   · rename_i hp
     have h1 := quoteP_ge s pos hp
     have h2 := Lib.decode_width_pos s pos hp
     have h3 := ih (pos + (Utf8.decode s pos).2) (by omega)
     unfold quoteF at h3 ⊢
     rw [List.flatMap_cons, List.length_append]
     omega
   · omega
theorem quoteS_ge (s : ByteArray) : s.size <= (quoteS s).size := by
 have := quoteF_ge s s.size 0 (by omega)
 unfold quoteS runesOf
 rw [strOfNums_size]
 simp only [List.length_append, List.length_cons, List.length_nil]
 omega
theorem unqS_size (q : ByteArray) : (unqS q).1.size <= q.size := by
 unfold unqS
 split
 · exact Nat.zero_le _
 · split
   · exact Nat.zero_le _
   · split
     · rename_i l _ h
       have := quoteS_ge (strOfNums l)
       rw [h] at this
       exact this
     · exact Nat.zero_le _
theorem puts_w (nl : List ByteArray) (l : List ByteArray) (x : Act) : putS nl (((119 : UInt8).toNat : Nat) : Int) l x = ({ x with f10 := (unhexS (l.headD ⟨#[]⟩)).1 }, l.tail) := by unfold putS; simp
theorem puts_m (nl : List ByteArray) (l : List ByteArray) (x : Act) : putS nl (((109 : UInt8).toNat : Nat) : Int) l x = ({ x with f10 := bytesOf (unqS (l.headD ⟨#[]⟩)).1 }, l.tail) := by unfold putS; simp
theorem puts_x (nl : List ByteArray) (l : List ByteArray) (x : Act) : putS nl (((120 : UInt8).toNat : Nat) : Int) l x = ({ x with f10 := (unhexS (l.headD ⟨#[]⟩)).1 }, l.tail) := by unfold putS; simp
theorem puts_b (nl : List ByteArray) (l : List ByteArray) (x : Act) : putS nl (((98 : UInt8).toNat : Nat) : Int) l x = ({ x with f9 := min (ExtQ.numOf (l.headD ⟨#[]⟩)) 2147483648 }, l.tail) := by unfold putS; simp
theorem puts_n (nl : List ByteArray) (l : List ByteArray) (x : Act) : putS nl (((110 : UInt8).toNat : Nat) : Int) l x = ({ x with f9 := min (ExtQ.numOf (l.headD ⟨#[]⟩)) 2147483648 }, l.tail) := by unfold putS; simp
theorem puts_s (nl : List ByteArray) (l : List ByteArray) (x : Act) : putS nl (((115 : UInt8).toNat : Nat) : Int) l x = ({ x with f3 := (setsR l).1, f4 := (setsR l).2.1, f5 := (setsR l).2.2 }, setsL l) := by unfold putS; simp
theorem puts_d (nl : List ByteArray) (l : List ByteArray) (x : Act) : putS nl (((100 : UInt8).toNat : Nat) : Int) l x = ({ x with f1 := ExtQ.nameI nl (l.headD ⟨#[]⟩) }, l.tail) := by unfold putS; simp
theorem puts_t (nl : List ByteArray) (l : List ByteArray) (x : Act) : putS nl (((116 : UInt8).toNat : Nat) : Int) l x = ({ x with f2 := ExtQ.nameI nl (l.headD ⟨#[]⟩) }, l.tail) := by unfold putS; simp
theorem puts_k (nl : List ByteArray) (l : List ByteArray) (x : Act) : putS nl (((107 : UInt8).toNat : Nat) : Int) l x = ({ x with f6 := min (ExtQ.numOf (l.headD ⟨#[]⟩)) 4294967295 }, l.tail) := by unfold putS; simp
theorem puts_i (nl : List ByteArray) (l : List ByteArray) (x : Act) : putS nl (((105 : UInt8).toNat : Nat) : Int) l x = ({ x with f7 := min (ExtQ.numOf (l.headD ⟨#[]⟩)) 4294967295 }, l.tail) := by unfold putS; simp
theorem puts_r (nl : List ByteArray) (l : List ByteArray) (x : Act) : putS nl (((114 : UInt8).toNat : Nat) : Int) l x = ({ x with f8 := ⟨ExtQ.numOf (l.headD ⟨#[]⟩), ExtQ.numOf (l.tail.headD ⟨#[]⟩)⟩ }, l.tail.tail) := by unfold putS; simp
theorem puts_p (nl : List ByteArray) (l : List ByteArray) (x : Act) : putS nl (((112 : UInt8).toNat : Nat) : Int) l x = ({ x with f11 := ExtQ.pickOf (l.headD ⟨#[]⟩) }, l.tail) := by unfold putS; simp
theorem step_any (p : Plan) (B2 : Option Addr) (d2 : Nat) (B3 : Option Addr) (d3 : Nat) (w W : World) (ab g : Nat) (l : List ByteArray) (x : Act) (u4 u11 u12 : Value) (h : AB p B2 d2 B3 d3 w W ab g l x u4 u11 u12) (hz : ∀ s ∈ l, s.size <= 1073741824) (hC : Kd.C Kd.string w B2 p.f2.length p.f2) (hc : p.f2.length <= d2) (hl : p.f2.length <= 1048576) (hn : ∀ i, (p.f2.getD i ByteArray.empty).size <= 17592186044416) (hT : Lib.Utf8Tabs 1 2 w) (c : UInt8) (hcl : c ∈ lets) :
 Calls Tryz.prog 38 #[.pointer (some ⟨g, 0, none⟩), .int .i32 ((c.toNat : Nat) : Int)] W (ValuePost p B2 d2 B3 d3 w W ab g ((c.toNat : Nat) : Int) (putS p.f2 ((c.toNat : Nat) : Int) l x)) := by
 have hq : (unqS (l.headD ⟨#[]⟩)).1.size <= 17592186044416 := Nat.le_trans (unqS_size _) (Nat.le_trans (headD_le hz) (by omega))
 unfold lets at hcl
 simp only [List.mem_cons, List.not_mem_nil, or_false] at hcl
 rcases hcl with rfl | rfl | rfl | rfl | rfl | rfl | rfl | rfl | rfl | rfl | rfl | rfl
 · rw [puts_w]
   exact step_w p B2 d2 B3 d3 w W ab g l x u4 u11 u12 h hz
 · rw [puts_m]
   exact step_m p B2 d2 B3 d3 w W ab g l x u4 u11 u12 h hz hq hT
 · rw [puts_x]
   exact step_x p B2 d2 B3 d3 w W ab g l x u4 u11 u12 h hz
 · rw [puts_b]
   exact step_b p B2 d2 B3 d3 w W ab g l x u4 u11 u12 h hz
 · rw [puts_n]
   exact step_n p B2 d2 B3 d3 w W ab g l x u4 u11 u12 h hz
 · rw [puts_s]
   exact step_s p B2 d2 B3 d3 w W ab g l x u4 u11 u12 h hz
 · rw [puts_d]
   exact step_d p B2 d2 B3 d3 w W ab g l x u4 u11 u12 h hz hC hc hl hn hT
 · rw [puts_t]
   exact step_t p B2 d2 B3 d3 w W ab g l x u4 u11 u12 h hz hC hc hl hn hT
 · rw [puts_k]
   exact step_k p B2 d2 B3 d3 w W ab g l x u4 u11 u12 h hz
 · rw [puts_i]
   exact step_i p B2 d2 B3 d3 w W ab g l x u4 u11 u12 h hz
 · rw [puts_r]
   exact step_r p B2 d2 B3 d3 w W ab g l x u4 u11 u12 h hz
 · rw [puts_p]
   exact step_p p B2 d2 B3 d3 w W ab g l x u4 u11 u12 h hz
theorem setsL_sub (l : List ByteArray) : ∀ s ∈ setsL l, s ∈ l := by
 unfold setsL
 split
 · intro s hs; exact List.mem_of_mem_tail (List.mem_of_mem_tail hs)
 · intro s hs; cases hs
theorem putS_sub (nl : List ByteArray) (c : Int) (l : List ByteArray) (x : Act) : ∀ s ∈ (putS nl c l x).2, s ∈ l := by
 intro s
 unfold putS
 by_cases c0 : c = 100
 · rw [if_pos c0]; exact List.mem_of_mem_tail
 rw [if_neg c0]
 by_cases c1 : c = 116
 · rw [if_pos c1]; exact List.mem_of_mem_tail
 rw [if_neg c1]
 by_cases c2 : c = 107
 · rw [if_pos c2]; exact List.mem_of_mem_tail
 rw [if_neg c2]
 by_cases c3 : c = 105
 · rw [if_pos c3]; exact List.mem_of_mem_tail
 rw [if_neg c3]
 by_cases c4 : c = 98
 · rw [if_pos c4]; exact List.mem_of_mem_tail
 rw [if_neg c4]
 by_cases c5 : c = 110
 · rw [if_pos c5]; exact List.mem_of_mem_tail
 rw [if_neg c5]
 by_cases c6 : c = 119
 · rw [if_pos c6]; exact List.mem_of_mem_tail
 rw [if_neg c6]
 by_cases c7 : c = 120
 · rw [if_pos c7]; exact List.mem_of_mem_tail
 rw [if_neg c7]
 by_cases c8 : c = 109
 · rw [if_pos c8]; exact List.mem_of_mem_tail
 rw [if_neg c8]
 by_cases c9 : c = 114
 · rw [if_pos c9]; exact fun h => List.mem_of_mem_tail (List.mem_of_mem_tail h)
 rw [if_neg c9]
 by_cases c10 : c = 115
 · rw [if_pos c10]; exact setsL_sub l s
 rw [if_neg c10]
 exact List.mem_of_mem_tail
end Go.Proofs.YtpdinahdcedmkaaGreatDoor.Ext
