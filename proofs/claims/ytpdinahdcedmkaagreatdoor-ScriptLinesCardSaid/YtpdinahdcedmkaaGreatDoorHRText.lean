import Derived.Test.YtpdinahdcedmkaaGreatDoorK11
import Derived.Test.YtpdinahdcedmkaaGreatDoorK10
import Derived.Test.YtpdinahdcedmkaaGreatDoorK13
set_option linter.unusedVariables false
set_option linter.unusedSimpArgs false
set_option maxHeartbeats 8000000
set_option maxRecDepth 100000
/- The document's text: what a line has of a letter. -/
namespace Go.Proofs.YtpdinahdcedmkaaGreatDoor.Ext
open Go.Proofs.YtpdinahdcedmkaaGreatDoor.P
open Go.RowKit YtpdinahdcedmkaaGreatDoorW.PrintWords YtpdinahdcedmkaaGreatDoorW.PrintLast YtpdinahdcedmkaaGreatDoorW.PrintMore Go.Proofs.YtpdinahdcedmkaaGreatDoor.Spec
theorem r_digits (n : Int) (w : World) (h0 : 0 <= n) (h1 : n < 18446744073709551616) : Calls Tryz.prog 74 #[.int .u64 n] w (StrB (decS n) w) := by
 have cq := Lib.hid (fun W => ExtP.r_Dec n.toNat W (by omega))
 rw [show ((n.toNat : Nat) : Int) = n by omega] at cq
 unfold decS
 generalize strOfNums (decL n.toNat) = R at *
 go_enter Tryz.func74, Tryz.ntmps74
 go_wp2_with (first
  | (go_at_call 115
     with_reducible refine (cq.out _).mono ?_
     rintro e v ⟨rfl, hb⟩
     subst hb)
  | fail)
 go_ret
 exact ⟨rfl, Below.refl _ _⟩
theorem text_d (p : Plan) (x : Act) (cp cs : List Value) (w : World) (hP : k25.K w p cp) (hK : k34.K w x cs) (h0 : 0 <= x.f1) (h1 : x.f1 < (p.f2.length : Int)) (hs : (p.f2.getD x.f1.toNat ByteArray.empty).size <= 1073741824) :
 Calls Tryz.prog 31 #[.agg cp.toArray, .agg cs.toArray, .int .i32 100] w (StrB (quoteS (p.f2.getD x.f1.toNat ByteArray.empty)) w) := by
 have P0 := Zz.mk ((Bx.new w cp 25).push (.cells cs.toArray 34))
 have X0 := Zz.mk ((Bx.new w cp 25).on cs 34 |>.at_ (show _ = w.heap.size + 1 by simp))
 obtain ⟨A4, c4, A11, c11, A12, c12, rfl, l4, g4, l11, g11, l12, g12⟩ := k34_open hK
 obtain ⟨B2, d2, B3, d3, rfl, m2, e2, m3, e3⟩ := k25_open hP
 have HZ := Zz.mk (hx_mk P0.out X0.out)
 clear P0 X0
 obtain ⟨ad, e0, hx0⟩ := Kd.at_string e2 x.f1 h0 h1
 cases e0
 have hx := (HZ.out.x.hb.cell (World.block_lt_of_cell? w _ hx0)).trans hx0
 clear hx0
 have cq := Lib.hid (fun W => r_Quote (p.f2.getD x.f1.toNat ByteArray.empty) W hs)
 clear hs
 simp only [rdOf] at hx
 generalize p.f2.getD x.f1.toNat ByteArray.empty = nm at *
 clear hP hK g4 g11 g12 l4 l11 l12 m2 e2 m3 e3
 have r2 := HZ.out.p.c 2
 have q1 := HZ.out.x.c 1
 go_enter Tryz.func31, Tryz.ntmps31
 go_wp2_with (first
  | (go_at_call 48
     with_reducible refine (cq.out _).mono ?_
     rintro e v ⟨rfl, hb⟩
     replace HZ := Zz.mk (HZ.out.next hb)
     clear hb)
  | fail)
 go_ret
 exact ⟨rfl, HZ.out.x.hb⟩
theorem text_t (p : Plan) (x : Act) (cp cs : List Value) (w : World) (hP : k25.K w p cp) (hK : k34.K w x cs) (h0 : 0 <= x.f2) (h1 : x.f2 < (p.f2.length : Int)) (hs : (p.f2.getD x.f2.toNat ByteArray.empty).size <= 1073741824) :
 Calls Tryz.prog 31 #[.agg cp.toArray, .agg cs.toArray, .int .i32 116] w (StrB (quoteS (p.f2.getD x.f2.toNat ByteArray.empty)) w) := by
 have P0 := Zz.mk ((Bx.new w cp 25).push (.cells cs.toArray 34))
 have X0 := Zz.mk ((Bx.new w cp 25).on cs 34 |>.at_ (show _ = w.heap.size + 1 by simp))
 obtain ⟨A4, c4, A11, c11, A12, c12, rfl, l4, g4, l11, g11, l12, g12⟩ := k34_open hK
 obtain ⟨B2, d2, B3, d3, rfl, m2, e2, m3, e3⟩ := k25_open hP
 have HZ := Zz.mk (hx_mk P0.out X0.out)
 clear P0 X0
 obtain ⟨ad, e0, hx0⟩ := Kd.at_string e2 x.f2 h0 h1
 cases e0
 have hx := (HZ.out.x.hb.cell (World.block_lt_of_cell? w _ hx0)).trans hx0
 clear hx0
 have cq := Lib.hid (fun W => r_Quote (p.f2.getD x.f2.toNat ByteArray.empty) W hs)
 clear hs
 simp only [rdOf] at hx
 generalize p.f2.getD x.f2.toNat ByteArray.empty = nm at *
 clear hP hK g4 g11 g12 l4 l11 l12 m2 e2 m3 e3
 have r2 := HZ.out.p.c 2
 have q2 := HZ.out.x.c 2
 go_enter Tryz.func31, Tryz.ntmps31
 go_wp2_with (first
  | (go_at_call 48
     with_reducible refine (cq.out _).mono ?_
     rintro e v ⟨rfl, hb⟩
     replace HZ := Zz.mk (HZ.out.next hb)
     clear hb)
  | fail)
 go_ret
 exact ⟨rfl, HZ.out.x.hb⟩
theorem text_k (p : Plan) (x : Act) (cp cs : List Value) (w : World) (hP : k25.K w p cp) (hK : k34.K w x cs) :
 Calls Tryz.prog 31 #[.agg cp.toArray, .agg cs.toArray, .int .i32 107] w (StrB (decS (IntKind.u64.wrap x.f6)) w) := by
 have P0 := Zz.mk ((Bx.new w cp 25).push (.cells cs.toArray 34))
 have X0 := Zz.mk ((Bx.new w cp 25).on cs 34 |>.at_ (show _ = w.heap.size + 1 by simp))
 obtain ⟨A4, c4, A11, c11, A12, c12, rfl, l4, g4, l11, g11, l12, g12⟩ := k34_open hK
 obtain ⟨B2, d2, B3, d3, rfl, m2, e2, m3, e3⟩ := k25_open hP
 have HZ := Zz.mk (hx_mk P0.out X0.out)
 clear P0 X0
 have cq := Lib.hid (fun W => r_digits (IntKind.u64.wrap x.f6) W (wrap_u64_bd _).1 (wrap_u64_bd _).2)
 generalize decS (IntKind.u64.wrap x.f6) = R at *
 clear hP hK g4 g11 g12 l4 l11 l12 m2 e2 m3 e3
 have q6 := HZ.out.x.c 6
 go_enter Tryz.func31, Tryz.ntmps31
 go_wp2_with (first
  | (go_at_call 74
     with_reducible refine (cq.out _).mono ?_
     rintro e v ⟨rfl, hb⟩
     replace HZ := Zz.mk (HZ.out.next hb)
     clear hb)
  | fail)
 go_ret
 exact ⟨rfl, HZ.out.x.hb⟩
theorem text_i (p : Plan) (x : Act) (cp cs : List Value) (w : World) (hP : k25.K w p cp) (hK : k34.K w x cs) :
 Calls Tryz.prog 31 #[.agg cp.toArray, .agg cs.toArray, .int .i32 105] w (StrB (decS (IntKind.u64.wrap x.f7)) w) := by
 have P0 := Zz.mk ((Bx.new w cp 25).push (.cells cs.toArray 34))
 have X0 := Zz.mk ((Bx.new w cp 25).on cs 34 |>.at_ (show _ = w.heap.size + 1 by simp))
 obtain ⟨A4, c4, A11, c11, A12, c12, rfl, l4, g4, l11, g11, l12, g12⟩ := k34_open hK
 obtain ⟨B2, d2, B3, d3, rfl, m2, e2, m3, e3⟩ := k25_open hP
 have HZ := Zz.mk (hx_mk P0.out X0.out)
 clear P0 X0
 have cq := Lib.hid (fun W => r_digits (IntKind.u64.wrap x.f7) W (wrap_u64_bd _).1 (wrap_u64_bd _).2)
 generalize decS (IntKind.u64.wrap x.f7) = R at *
 clear hP hK g4 g11 g12 l4 l11 l12 m2 e2 m3 e3
 have q7 := HZ.out.x.c 7
 go_enter Tryz.func31, Tryz.ntmps31
 go_wp2_with (first
  | (go_at_call 74
     with_reducible refine (cq.out _).mono ?_
     rintro e v ⟨rfl, hb⟩
     replace HZ := Zz.mk (HZ.out.next hb)
     clear hb)
  | fail)
 go_ret
 exact ⟨rfl, HZ.out.x.hb⟩
theorem text_b (p : Plan) (x : Act) (cp cs : List Value) (w : World) (hP : k25.K w p cp) (hK : k34.K w x cs) :
 Calls Tryz.prog 31 #[.agg cp.toArray, .agg cs.toArray, .int .i32 98] w (StrB (decS (IntKind.u64.wrap x.f9)) w) := by
 have P0 := Zz.mk ((Bx.new w cp 25).push (.cells cs.toArray 34))
 have X0 := Zz.mk ((Bx.new w cp 25).on cs 34 |>.at_ (show _ = w.heap.size + 1 by simp))
 obtain ⟨A4, c4, A11, c11, A12, c12, rfl, l4, g4, l11, g11, l12, g12⟩ := k34_open hK
 obtain ⟨B2, d2, B3, d3, rfl, m2, e2, m3, e3⟩ := k25_open hP
 have HZ := Zz.mk (hx_mk P0.out X0.out)
 clear P0 X0
 have cq := Lib.hid (fun W => r_digits (IntKind.u64.wrap x.f9) W (wrap_u64_bd _).1 (wrap_u64_bd _).2)
 generalize decS (IntKind.u64.wrap x.f9) = R at *
 clear hP hK g4 g11 g12 l4 l11 l12 m2 e2 m3 e3
 have q10 := HZ.out.x.c 10
 go_enter Tryz.func31, Tryz.ntmps31
 go_wp2_with (first
  | (go_at_call 74
     with_reducible refine (cq.out _).mono ?_
     rintro e v ⟨rfl, hb⟩
     replace HZ := Zz.mk (HZ.out.next hb)
     clear hb)
  | fail)
 go_ret
 exact ⟨rfl, HZ.out.x.hb⟩
theorem text_n (p : Plan) (x : Act) (cp cs : List Value) (w : World) (hP : k25.K w p cp) (hK : k34.K w x cs) :
 Calls Tryz.prog 31 #[.agg cp.toArray, .agg cs.toArray, .int .i32 110] w (StrB (decS (IntKind.u64.wrap x.f9)) w) := by
 have P0 := Zz.mk ((Bx.new w cp 25).push (.cells cs.toArray 34))
 have X0 := Zz.mk ((Bx.new w cp 25).on cs 34 |>.at_ (show _ = w.heap.size + 1 by simp))
 obtain ⟨A4, c4, A11, c11, A12, c12, rfl, l4, g4, l11, g11, l12, g12⟩ := k34_open hK
 obtain ⟨B2, d2, B3, d3, rfl, m2, e2, m3, e3⟩ := k25_open hP
 have HZ := Zz.mk (hx_mk P0.out X0.out)
 clear P0 X0
 have cq := Lib.hid (fun W => r_digits (IntKind.u64.wrap x.f9) W (wrap_u64_bd _).1 (wrap_u64_bd _).2)
 generalize decS (IntKind.u64.wrap x.f9) = R at *
 clear hP hK g4 g11 g12 l4 l11 l12 m2 e2 m3 e3
 have q10 := HZ.out.x.c 10
 go_enter Tryz.func31, Tryz.ntmps31
 go_wp2_with (first
  | (go_at_call 74
     with_reducible refine (cq.out _).mono ?_
     rintro e v ⟨rfl, hb⟩
     replace HZ := Zz.mk (HZ.out.next hb)
     clear hb)
  | fail)
 go_ret
 exact ⟨rfl, HZ.out.x.hb⟩
theorem text_w (p : Plan) (x : Act) (cp cs : List Value) (w : World) (hP : k25.K w p cp) (hK : k34.K w x cs) (hb : Bytes x.f10) (hl : x.f10.length <= 1048576) :
 Calls Tryz.prog 31 #[.agg cp.toArray, .agg cs.toArray, .int .i32 119] w (StrB (strOfNums (hexS x.f10)) w) := by
 have P0 := Zz.mk ((Bx.new w cp 25).push (.cells cs.toArray 34))
 have X0 := Zz.mk ((Bx.new w cp 25).on cs 34 |>.at_ (show _ = w.heap.size + 1 by simp))
 obtain ⟨A4, c4, A11, c11, A12, c12, rfl, l4, g4, l11, g11, l12, g12⟩ := k34_open hK
 obtain ⟨B2, d2, B3, d3, rfl, m2, e2, m3, e3⟩ := k25_open hP
 have HZ := Zz.mk (hx_mk P0.out X0.out)
 clear P0 X0
 have cq := Lib.hid (fun W (hW : Below w.heap.size w W) => refHex_walk A11 c11 x.f10 W (Kd.C_below g11 hW) l11 hb hl)
 clear hb hl
 generalize strOfNums (hexS x.f10) = R at *
 clear hP hK g4 g11 g12 l4 l11 l12 m2 e2 m3 e3
 have q11 := HZ.out.x.c 11
 go_enter Tryz.func31, Tryz.ntmps31
 go_wp2_with (first
  | (go_at_call 75
     with_reducible refine (cq.out _ HZ.out.x.hb).mono ?_
     rintro e v ⟨rfl, hb⟩
     replace HZ := Zz.mk (HZ.out.next hb)
     clear hb)
  | fail)
 go_ret
 exact ⟨rfl, HZ.out.x.hb⟩
theorem text_x (p : Plan) (x : Act) (cp cs : List Value) (w : World) (hP : k25.K w p cp) (hK : k34.K w x cs) (hb : Bytes x.f10) (hl : x.f10.length <= 1048576) :
 Calls Tryz.prog 31 #[.agg cp.toArray, .agg cs.toArray, .int .i32 120] w (StrB (strOfNums (hexS x.f10)) w) := by
 have P0 := Zz.mk ((Bx.new w cp 25).push (.cells cs.toArray 34))
 have X0 := Zz.mk ((Bx.new w cp 25).on cs 34 |>.at_ (show _ = w.heap.size + 1 by simp))
 obtain ⟨A4, c4, A11, c11, A12, c12, rfl, l4, g4, l11, g11, l12, g12⟩ := k34_open hK
 obtain ⟨B2, d2, B3, d3, rfl, m2, e2, m3, e3⟩ := k25_open hP
 have HZ := Zz.mk (hx_mk P0.out X0.out)
 clear P0 X0
 have cq := Lib.hid (fun W (hW : Below w.heap.size w W) => refHex_walk A11 c11 x.f10 W (Kd.C_below g11 hW) l11 hb hl)
 clear hb hl
 generalize strOfNums (hexS x.f10) = R at *
 clear hP hK g4 g11 g12 l4 l11 l12 m2 e2 m3 e3
 have q11 := HZ.out.x.c 11
 go_enter Tryz.func31, Tryz.ntmps31
 go_wp2_with (first
  | (go_at_call 75
     with_reducible refine (cq.out _ HZ.out.x.hb).mono ?_
     rintro e v ⟨rfl, hb⟩
     replace HZ := Zz.mk (HZ.out.next hb)
     clear hb)
  | fail)
 go_ret
 exact ⟨rfl, HZ.out.x.hb⟩
theorem text_m (p : Plan) (x : Act) (cp cs : List Value) (w : World) (hP : k25.K w p cp) (hK : k34.K w x cs) (hs : (strOfNums x.f10).size <= 1073741824) :
 Calls Tryz.prog 31 #[.agg cp.toArray, .agg cs.toArray, .int .i32 109] w (StrB (quoteS (strOfNums x.f10)) w) := by
 have P0 := Zz.mk ((Bx.new w cp 25).push (.cells cs.toArray 34))
 have X0 := Zz.mk ((Bx.new w cp 25).on cs 34 |>.at_ (show _ = w.heap.size + 1 by simp))
 obtain ⟨A4, c4, A11, c11, A12, c12, rfl, l4, g4, l11, g11, l12, g12⟩ := k34_open hK
 obtain ⟨B2, d2, B3, d3, rfl, m2, e2, m3, e3⟩ := k25_open hP
 have HZ := Zz.mk (hx_mk P0.out X0.out)
 clear P0 X0
 have hcv := Kd.C_string (P := Tryz.prog) (A := A11) (c := c11) Tryz.underlying31 Tryz.underlying5 Tryz.underlying9 (Kd.C_below g11 HZ.out.x.hb)
 have cq := Lib.hid (fun W => r_Quote (strOfNums x.f10) W hs)
 clear hs
 clear hP hK g4 g11 g12 l4 l11 l12 m2 e2 m3 e3
 have q11 := HZ.out.x.c 11
 go_enter Tryz.func31, Tryz.ntmps31
 go_wp2_with (first
  | (go_at_call 48
     with_reducible refine (cq.out _).mono ?_
     rintro e v ⟨rfl, hb⟩
     replace HZ := Zz.mk (HZ.out.next hb)
     clear hb)
  | fail)
 go_ret
 exact ⟨rfl, HZ.out.x.hb⟩
theorem text_r (p : Plan) (x : Act) (cp cs : List Value) (w : World) (hP : k25.K w p cp) (hK : k34.K w x cs) (h0 : 0 <= x.f8.f0) (h1 : x.f8.f0 < 18446744073709551616) (h2 : 0 <= x.f8.f1) (h3 : x.f8.f1 < 18446744073709551616) :
 Calls Tryz.prog 31 #[.agg cp.toArray, .agg cs.toArray, .int .i32 114] w (StrB ((decS x.f8.f0 ++ ⟨#[32]⟩) ++ decS x.f8.f1) w) := by
 have P0 := Zz.mk ((Bx.new w cp 25).push (.cells cs.toArray 34))
 have X0 := Zz.mk ((Bx.new w cp 25).on cs 34 |>.at_ (show _ = w.heap.size + 1 by simp))
 obtain ⟨A4, c4, A11, c11, A12, c12, rfl, l4, g4, l11, g11, l12, g12⟩ := k34_open hK
 obtain ⟨B2, d2, B3, d3, rfl, m2, e2, m3, e3⟩ := k25_open hP
 have HZ := Zz.mk (hx_mk P0.out X0.out)
 clear P0 X0
 have c1 := Lib.hid (fun W => r_digits x.f8.f0 W h0 h1)
 have c2 := Lib.hid (fun W => r_digits x.f8.f1 W h2 h3)
 have z1 : (decS x.f8.f0).size <= 20 := decS_size _ h1
 have z2 : (decS x.f8.f1).size <= 20 := decS_size _ h3
 clear h0 h1 h2 h3
 generalize decS x.f8.f0 = R1 at *
 generalize decS x.f8.f1 = R2 at *
 have f1 : R1.size + 1 <= 9223372036854775807 := by omega
 have f2 : (R1 ++ ⟨#[32]⟩ : ByteArray).size + R2.size <= 9223372036854775807 := by rw [ByteArray.size_append]; show _ + 1 + _ <= _; omega
 have k1 := fun W => run_string_add_sum (P := Tryz.prog) W R1 (⟨#[32]⟩ : ByteArray) f1
 have k2 := fun W => run_string_add_sum (P := Tryz.prog) W (R1 ++ ⟨#[32]⟩ : ByteArray) R2 f2
 clear hP hK g4 g11 g12 l4 l11 l12 m2 e2 m3 e3
 have q8 := HZ.out.x.c 8
 have q9 := HZ.out.x.c 9
 go_enter Tryz.func31, Tryz.ntmps31
 go_upto_region 19 with fail
 refine wp_region_held_drew (S := HX w 25 34 w.heap.size (w.heap.size + 1) (.int .i64 p.f0) (.int .i64 p.f1) (.slice B2 p.f2.length d2) (.slice B3 p.f3.length d3) (.int .i64 x.f0) (.int .i64 x.f1) (.int .i64 x.f2) (.int .i64 x.f3) (.slice A4 x.f4.length c4) (.int .u32 x.f5) (.int .u32 x.f6) (.int .u32 x.f7) (.int .u64 x.f8.f0) (.int .u64 x.f8.f1) (.int .i64 x.f9) (.slice A11 x.f10.length c11) (.slice A12 x.f11.length c12)) (by kernel_rfl) (HZ.out.drew) (fun hHeld => ?_)
 apply tkJ 0
 apply tkJ 1
 apply tkJ 2
 apply tkJ 5
 apply tkJ 6
 apply tkJ 7
 refine wpAnyH_ready (rs := [3]) (by kernel_rfl) (by simp) ?_
 refine AllReadyH.cons rfl (fun K hK => ?_) AllReadyH.nil
 go_simp
 go_at_call 74
 with_reducible refine (c1.out _).mono ?_
 rintro e u1 ⟨rfl, hbz⟩
 try go_wp2_with fail
 refine hK.out _ _ (hHeld.next hbz) ?_
 clear hHeld hbz hK K
 intro hHeld
 try simp only [Act.put,pA,pB,pC,pD,pE,pF]
 apply tkJ 4
 refine wpAnyH_ready (rs := [8]) (by kernel_rfl) (by simp) ?_
 refine AllReadyH.cons rfl (fun K hK => ?_) AllReadyH.nil
 go_simp
 go_at_call 74
 with_reducible refine (c2.out _).mono ?_
 rintro e u2 ⟨rfl, hbz⟩
 try go_wp2_with fail
 refine hK.out _ _ (hHeld.next hbz) ?_
 clear hHeld hbz hK K
 intro hHeld
 try simp only [Act.put,pA,pB,pC,pD,pE,pF]
 apply tkJ 9
 apply tkJ 10
 refine wpAnyH_done (by kernel_rfl) ?_ _
 go_wp2_with fail
 go_ret
 exact ⟨rfl, hHeld.x.hb⟩
theorem text_s (p : Plan) (x : Act) (cp cs : List Value) (w : World) (hP : k25.K w p cp) (hK : k34.K w x cs) (hx : ActBd x) (hl : x.f4.length <= 1048576) :
 Calls Tryz.prog 31 #[.agg cp.toArray, .agg cs.toArray, .int .i32 115] w (StrB (setsB x) w) := by
 have cX := Lib.hid (fun W => ExtP.r_Name 3 x.f5 W hx.xm.1 hx.xm.2)
 have cA := Lib.hid (fun i W => ExtP.r_Name 2 (x.f4.getD i z74).f0 W (hx.lv i).1.1 (hx.lv i).1.2)
 have cB := Lib.hid (fun i W => ExtP.r_Name 1 (x.f4.getD i z74).f1 W (hx.lv i).2.1 (hx.lv i).2.2)
 have P0 := Zz.mk ((Bx.new w cp 25).push (.cells cs.toArray 34))
 have X0 := Zz.mk ((Bx.new w cp 25).on cs 34 |>.at_ (show _ = w.heap.size + 1 by simp))
 obtain ⟨B2, d2, B3, d3, rfl, m2, e2, m3, e3⟩ := k25_open hP
 clear hP m2 e2 m3 e3
 obtain ⟨A4, c4, A11, c11, A12, c12, rfl, l4, g4, l11, g11, l12, g12⟩ := k34_open hK
 have hn : x.f4.length <= 9223372036854775807 := g4.2.1
 have HC := Zz.mk g4
 clear hK hx g4 g11 g12 l4 l11 l12
 obtain ⟨R, hR⟩ : ∃ R, setsB x = R := ⟨_, rfl⟩
 rw [hR]
 unfold setsB at hR
 have q3 := X0.out.c 3
 have q4 := X0.out.c 4
 have q5 := X0.out.c 5
 by_cases h2 : x.f3 = 2
 · rw [if_pos h2] at hR
   have HR := Lib.hid hR
   have t2 : (x.f3 == 2) = true := by rw [h2]; rfl
   clear hR h2 cA cB
   have zx := nameS_size 3 x.f5
   generalize ExtP.nameS 3 x.f5 = n3 at *
   have f1 : 5 + n3.size <= 9223372036854775807 := by omega
   go_enter Tryz.func31, Tryz.ntmps31
   go_wp2_with (first
    | (go_at_call 76
       with_reducible refine (cX.out _).mono ?_
       rintro e v ⟨rfl, hb⟩
       replace X0 := Zz.mk (X0.out.next hb)
       clear hb)
    | fail)
   go_ret
   exact ⟨by rw [<- HR.out]; rfl, X0.out.hb⟩
 · rw [if_neg h2] at hR
   have HR := Lib.hid hR
   have t2 : (x.f3 == 2) = false := beq_eq_false_iff_ne.2 h2
   clear hR h2 cX
   go_enter Tryz.func31, Tryz.ntmps31
   go_wp2
   go_loopw [7, 87] (fun v3 v16 wr => ∃ (i : Nat) (a : ByteArray), v16 = .int .i64 i /\ i <= x.f4.length /\ v3 = .string a /\ a.size <= 3 + 202 * i /\ Zz ((x.f4.drop i).foldl lvF a = R) /\ Zz (Below w.heap.size w wr)) (fun _ v16 _ => x.f4.length - (intOf v16).toNat)
   case atStart => exact ⟨0, _, rfl, by omega, rfl, by decide, ⟨HR.out⟩, ⟨X0.out.hb⟩⟩
   case round =>
    obtain ⟨i, a, rfl, hi, rfl, hz, HA, HB⟩ := hrel
    clear q3 q4 q5 t2 X0 P0 HR
    by_cases hlt : i < x.f4.length
    · obtain ⟨ad', e0, y0, y1⟩ := at_T74 HC.out (i : Int) (by omega) (by omega)
      cases e0
      simp only [rd_T74, Int.toNat_natCast] at y0 y1
      have y0' := (HB.out.cell (World.block_lt_of_cell? w _ y0)).trans y0
      have y1' := (HB.out.cell (World.block_lt_of_cell? w _ y1)).trans y1
      clear y0 y1
      have hA := HA.out
      rw [drop_cons74 _ _ hlt, List.foldl_cons] at hA
      have c2 := Lib.hid (cA.out i)
      have c1 := Lib.hid (cB.out i)
      clear HA
      generalize x.f4.getD i z74 = V at *
      have z2 := nameS_size 2 V.f0
      have z1 := nameS_size 1 V.f1
      unfold lvF at hA
      generalize ExtP.nameS 2 V.f0 = n2 at *
      generalize ExtP.nameS 1 V.f1 = n1 at *
      have HA := Lib.hid hA
      clear hA
      have f1 : 1 + n2.size <= 9223372036854775807 := by omega
      have f2 : (⟨#[32]⟩ ++ n2 : ByteArray).size + 1 <= 9223372036854775807 := by rw [ByteArray.size_append]; show 1 + _ + 1 <= _; omega
      have f3 : ((⟨#[32]⟩ ++ n2) ++ ⟨#[47]⟩ : ByteArray).size + n1.size <= 9223372036854775807 := by rw [ByteArray.size_append, ByteArray.size_append]; show 1 + _ + 1 + _ <= _; omega
      have fz : (((⟨#[32]⟩ ++ n2) ++ ⟨#[47]⟩) ++ n1 : ByteArray).size <= 202 := by rw [ByteArray.size_append, ByteArray.size_append, ByteArray.size_append]; show 1 + _ + 1 + _ <= _; omega
      have f4 : a.size + (((⟨#[32]⟩ ++ n2) ++ ⟨#[47]⟩) ++ n1 : ByteArray).size <= 9223372036854775807 := by omega
      have FZ : Zz ((a ++ (((⟨#[32]⟩ ++ n2) ++ ⟨#[47]⟩) ++ n1)).size <= 3 + 202 * (i + 1)) := ⟨by rw [ByteArray.size_append]; omega⟩
      clear fz
      have k1 := fun W => run_string_add_sum (P := Tryz.prog) W (⟨#[32]⟩ : ByteArray) n2 f1
      have k2 := fun W => run_string_add_sum (P := Tryz.prog) W (⟨#[32]⟩ ++ n2 : ByteArray) (⟨#[47]⟩ : ByteArray) f2
      have k3 := fun W => run_string_add_sum (P := Tryz.prog) W ((⟨#[32]⟩ ++ n2) ++ ⟨#[47]⟩ : ByteArray) n1 f3
      have k4 := fun W => run_string_add_sum (P := Tryz.prog) W a (((⟨#[32]⟩ ++ n2) ++ ⟨#[47]⟩) ++ n1 : ByteArray) f4
      have V0 := Zz.mk (⟨heap_alloc_new wr _, HB.out.alloc HB.out.size _⟩ : Bx w (wr.alloc (.cells #[.int .u32 V.f0, .int .u32 V.f1] 74)) wr.heap.size [.int .u32 V.f0, .int .u32 V.f1] 74)
      go_upto_region 27 with fail
      · skip
        refine wp_region_held_drew (S := HL w wr.heap.size (.int .u32 V.f0) (.int .u32 V.f1)) (by kernel_rfl) (hl_mk V0.out |>.next (Below.drew (Below.refl _ _))) (fun hHeld => ?_)
        apply tkJ 0 (hy := by (intro w hSw; (try dsimp only at hSw); (try simp only [HL] at hSw); go_simp; (try with_reducible rfl)))
        apply tkJ 1 (hy := by (intro w hSw; (try dsimp only at hSw); (try simp only [HL] at hSw); go_simp; (try with_reducible rfl)))
        apply tkJ 2 (hy := by (intro w hSw; (try dsimp only at hSw); (try simp only [HL] at hSw); go_simp; (try with_reducible rfl)))
        apply tkJ 6 (hy := by (intro w hSw; (try dsimp only at hSw); (try simp only [HL] at hSw); go_simp; (try with_reducible rfl)))
        apply tkJ 7 (hy := by (intro w hSw; (try dsimp only at hSw); (try simp only [HL] at hSw); go_simp; (try with_reducible rfl)))
        refine wpAnyH_ready (rs := [3]) (by kernel_rfl) (by simp) ?_
        refine AllReadyH.cons rfl (fun K hK => ?_) AllReadyH.nil
        go_simp
        go_at_call 76
        with_reducible refine (c2.out _).mono ?_
        rintro e u1 ⟨rfl, hbz⟩
        try go_wp2_with fail
        refine hK.out _ _ (hHeld.next hbz) ?_
        clear hHeld hbz hK K
        intro hHeld
        try simp only [Act.put,pA,pB,pC,pD,pE,pF]
        apply tkJ 4 (hy := by (intro w hSw; (try dsimp only at hSw); (try simp only [HL] at hSw); go_simp; (try with_reducible rfl)))
        apply tkJ 5 (hy := by (intro w hSw; (try dsimp only at hSw); (try simp only [HL] at hSw); go_simp; (try with_reducible rfl)))
        refine wpAnyH_ready (rs := [8]) (by kernel_rfl) (by simp) ?_
        refine AllReadyH.cons rfl (fun K hK => ?_) AllReadyH.nil
        go_simp
        go_at_call 76
        with_reducible refine (c1.out _).mono ?_
        rintro e u2 ⟨rfl, hbz⟩
        try go_wp2_with fail
        refine hK.out _ _ (hHeld.next hbz) ?_
        clear hHeld hbz hK K
        intro hHeld
        try simp only [Act.put,pA,pB,pC,pD,pE,pF]
        apply tkJ 9 (hy := by (intro w hSw; (try dsimp only at hSw); (try simp only [HL] at hSw); go_simp; (try with_reducible rfl)))
        apply tkJ 10 (hy := by (intro w hSw; (try dsimp only at hSw); (try simp only [HL] at hSw); go_simp; (try with_reducible rfl)))
        apply tkJ 11 (hy := by (intro w hSw; (try dsimp only at hSw); (try simp only [HL] at hSw); go_simp; (try with_reducible rfl)))
        refine wpAnyH_done (by kernel_rfl) ?_ _
        go_wp2_with fail
        go_roundw
        case rel => exact ⟨i + 1, _, by go_num, by omega, rfl, FZ.out, ⟨HA.out⟩, ⟨hHeld.2.2.out.hb⟩⟩
        case measure => simp [intOf]; omega
    · have hA := HA.out
      rw [List.drop_of_length_le (by omega)] at hA
      have hA : a = R := hA
      subst hA
      go_wp2
      go_ret
      exact ⟨rfl, HB.out⟩
def markS (l : List Bool) : ByteArray := ⟨(l.map markB).toArray⟩
theorem markS_size (l : List Bool) : (markS l).size = l.length := by unfold markS; show (List.toArray _).size = _; simp
theorem markS_snoc (l : List Bool) (b : Bool) : markS (l ++ [b]) = markS l ++ ⟨#[markB b]⟩ := by
 apply ByteArray.ext
 rw [ByteArray.data_append]
 simp [markS]
theorem markS_empty (l : List Bool) : (markS l).toList.isEmpty = decide (l.length = 0) := by
 rw [ByteArray.toList_eq]
 cases l with
 | nil => rfl
 | cons a t => simp [markS]
theorem text_p (p : Plan) (x : Act) (cp cs : List Value) (w : World) (hP : k25.K w p cp) (hK : k34.K w x cs) (hl : x.f11.length <= 1048576) :
 Calls Tryz.prog 31 #[.agg cp.toArray, .agg cs.toArray, .int .i32 112] w (StrB (pickS x.f11) w) := by
 have P0 := Zz.mk ((Bx.new w cp 25).push (.cells cs.toArray 34))
 have X0 := Zz.mk ((Bx.new w cp 25).on cs 34 |>.at_ (show _ = w.heap.size + 1 by simp))
 obtain ⟨A4, c4, A11, c11, A12, c12, rfl, l4, g4, l11, g11, l12, g12⟩ := k34_open hK
 obtain ⟨B2, d2, B3, d3, rfl, m2, e2, m3, e3⟩ := k25_open hP
 have HC := Zz.mk g12
 clear hP hK g4 g11 g12 l4 l11 l12 m2 e2 m3 e3
 have q12 := X0.out.c 12
 generalize x.f11 = l at *
 go_enter Tryz.func31, Tryz.ntmps31
 go_wp2
 have HB := Zz.mk X0.out.hb
 go_loopw [10, 107] (fun v10 v107 wr => ∃ (i : Nat), v107 = .int .i64 i /\ i <= l.length /\ v10 = .string (markS (l.take i)) /\ Zz (Below w.heap.size w wr)) (fun _ v107 _ => l.length - (intOf v107).toNat)
 case atStart => exact ⟨0, rfl, by omega, rfl, HB⟩
 case round =>
  clear q12 X0 P0 HB
  obtain ⟨i, rfl, hi, rfl, HB⟩ := hrel
  have hsz : (markS (l.take i)).size <= 1048576 := by rw [markS_size, List.length_take]; omega
  have f1 : (markS (l.take i)).size + 1 <= 9223372036854775807 := by omega
  by_cases hlt : i < l.length
  · obtain ⟨ad, ea, hx0⟩ := Kd.at_bool HC.out (i : Int) (by omega) (by omega)
    cases ea
    rw [Int.toNat_natCast] at hx0
    have hx1 := (HB.out.cell (World.block_lt_of_cell? w _ hx0)).trans hx0
    rw [show rdOf false l (i : Int) = l.getD i false from rfl] at hx1
    have HM := Zz.mk (show markS (l.take (i + 1)) = markS (l.take i) ++ ⟨#[markB (l.getD i false)]⟩ by rw [takeb_snoc l i hlt, markS_snoc])
    clear hx0
    generalize l.getD i false = b at *
    generalize markS (l.take i) = S at *
    cases b with
    | true =>
      go_wp2
      go_roundw
      case rel => exact ⟨i + 1, by go_num, by omega, by rw [HM.out]; rfl, HB⟩
      case measure => simp [intOf]; omega
    | false =>
      go_wp2
      go_roundw
      case rel => exact ⟨i + 1, by go_num, by omega, by rw [HM.out]; rfl, HB⟩
      case measure => simp [intOf]; omega
  · obtain rfl : i = l.length := by omega
    rw [List.take_length] at *
    have te := markS_empty l
    by_cases h0 : l.length = 0
    · have hp : pickS l = ⟨#[46]⟩ := by unfold pickS pickL; rw [if_pos h0]
      rw [decide_eq_true h0] at te
      have HK := Lib.hid hp
      clear hp f1 hsz
      go_wp2
      go_ret
      exact ⟨by rw [HK.out]; rfl, HB.out⟩
    · have hp : pickS l = markS l := by unfold pickS pickL markS; rw [if_neg h0]
      rw [decide_eq_false h0] at te
      have HK := Lib.hid hp
      clear hp f1 hsz
      go_wp2
      go_ret
      exact ⟨by rw [HK.out]; rfl, HB.out⟩
end Go.Proofs.YtpdinahdcedmkaaGreatDoor.Ext
