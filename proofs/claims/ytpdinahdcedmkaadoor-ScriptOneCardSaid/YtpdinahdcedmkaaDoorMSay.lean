import Derived.Test.YtpdinahdcedmkaaDoorMHex
import Derived.Test.YtpdinahdcedmkaaDoorP1
import Derived.Test.YtpdinahdcedmkaaDoorMSayS
/- octet.Hex, plainly. -/
namespace Go.Proofs.YtpdinahdcedmkaaDoor.Ext
open Go.Proofs.YtpdinahdcedmkaaDoor.P
set_option linter.unusedVariables false
open Go.RowKit Go.Proofs.YtpdinahdcedmkaaDoorW.PrintWords Go.Proofs.YtpdinahdcedmkaaDoorW.PrintLast Go.Proofs.YtpdinahdcedmkaaDoorW.PrintMore

theorem hex_l0 (l : List Int) (hb : Bytes l) (hl : l.length ≤ 1048576) : ∀ (m i : Nat) (out : List Int), i + m = l.length → out.length = 2 * i → octet_Hex.l0 (m + 1) out l (l.length : Int) (i : Int) = some (strOfNums (out ++ hexS (l.drop i)))
  | 0, i, out, h, ho => by
    unfold octet_Hex.l0
    rw [if_neg (by omega), List.drop_eq_nil_of_le (by omega)]
    simp [hexS]
  | m + 1, i, out, h, ho => by
    have hg := Bytes.get hb i (by omega)
    have hbits := bits15 (l.getD i 0) hg.1 hg.2
    unfold octet_Hex.l0
    rw [show rd l (i : Int) = l.getD i 0 by simp [rd]]
    rw [hbits]
    rw [if_pos (by omega), if_pos (by omega), if_pos (by omega), if_pos (by omega), if_pos (by omega), if_pos (by omega), if_pos (by omega), Option.bind_some, if_pos (by simp; omega), bt_hex _ (by omega) (by omega), bt_hex _ (by omega) (by omega), w64 _ (by omega)]
    have := hex_l0 l hb hl m (i + 1) (out ++ [hexd (l.getD i 0 / 16), hexd (l.getD i 0 % 16)]) (by omega) (by simp; omega)
    push_cast at this
    rw [this, drop_cons l i (by omega)]
    simp [hexS, List.append_assoc]
theorem hex_f (l : List Int) (hb : Bytes l) (hl : l.length ≤ 1048576) : octet_Hex.f (l.length + 1) l = some (strOfNums (hexS l)) := by
  unfold octet_Hex.f
  rw [w64 _ (by omega), if_pos (by omega), if_pos (by omega)]
  have := hex_l0 l hb hl l.length 0 [] (by omega) rfl
  simpa using this
end Go.Proofs.YtpdinahdcedmkaaDoor.Ext
/- script.said: what a line has of a letter. -/
namespace Go.Proofs.YtpdinahdcedmkaaDoor.Ext
open Go.Proofs.YtpdinahdcedmkaaDoor.P
set_option linter.unusedVariables false
set_option linter.unusedSimpArgs false
open Go.RowKit Go.Proofs.YtpdinahdcedmkaaDoorW.PrintWords Go.Proofs.YtpdinahdcedmkaaDoorW.PrintLast Go.Proofs.YtpdinahdcedmkaaDoorW.PrintMore Go.Proofs.YtpdinahdcedmkaaDoor.Spec

theorem c_dec (n : Int) (w : World) (h0 : 0 ≤ n) (h1 : n < 18446744073709551616) : Calls Tryd.prog 52 #[.int .u64 n] w (StrB (decS n) w) :=
  octet_Decimal.calls n _ w (by unfold octet_Decimal.f; rw [if_pos h0, if_pos h1]; rfl)
theorem c_digits (n : Int) (w : World) : Calls Tryd.prog 53 #[.int .i64 n] w (StrB (decS (IntKind.u64.wrap n)) w) := by
  have cq := Lib.hid (fun W => c_dec (IntKind.u64.wrap n) W (wrap_u64_bd _).1 (wrap_u64_bd _).2)
  generalize decS (IntKind.u64.wrap n) = R at *
  go_enter Tryd.func53, Tryd.ntmps53
  go_wp2_with (first
    | (go_at_call 52
       with_reducible refine (cq.out _).mono ?_
       rintro e v ⟨rfl, hb⟩)
    | fail)
  go_ret
  exact ⟨rfl, hb⟩
theorem c_hex (A : Option Addr) (c : Nat) (l : List Int) (w : World) (hC : Kd.C (Kd.int .u8) w A l.length l) (hc : l.length ≤ c) (hb : Bytes l) (hl : l.length ≤ 1048576) :
    Calls Tryd.prog 54 #[.slice A l.length c] w (StrB (strOfNums (hexS l)) w) := octet_Hex.calls (l.length + 1) A c l _ w hC hc (hex_f l hb hl)
set_option maxHeartbeats 4000000 in
set_option maxRecDepth 100000 in
theorem said_d (p : Plan) (x : Act) (cp cs : List Value) (w : World) (hP : k33.K w p cp) (hK : k42.K w x cs) (h0 : 0 ≤ x.f1) (h1 : x.f1 < (p.f2.length : Int)) (hs : (p.f2.getD x.f1.toNat ByteArray.empty).size ≤ 17592186044416) (hT : Lib.Utf8Tabs 0 1 w) :
    Calls Tryd.prog 37 #[.agg cp.toArray, .agg cs.toArray, .int .i32 100] w (StrB (quoteS (p.f2.getD x.f1.toNat ByteArray.empty)) w) := by
  have P0 := Aside0.mk ((Bx.new w cp 33).push (.cells cs.toArray 42))
  have X0 := Aside0.mk ((Bx.new w cp 33).on cs 42 |>.at_ (show _ = w.heap.size + 1 by simp))
  obtain ⟨A4, c4, A11, c11, A12, c12, rfl, l4, g4, l11, g11, l12, g12⟩ := k42_open hK
  obtain ⟨B2, d2, B3, d3, rfl, m2, e2, m3, e3⟩ := k33_open hP
  have HZ := Aside0.mk (hx_mk P0.out X0.out)
  clear P0 X0
  obtain ⟨ad, e0, hx0⟩ := Kd.at_string e2 x.f1 h0 h1
  cases e0
  have hx := (HZ.out.x.hb.cell (World.block_lt_of_cell? w _ hx0)).trans hx0
  clear hx0
  have cq := Lib.hid (fun W (hW : Below w.heap.size w W) => quote_walk (p.f2.getD x.f1.toNat ByteArray.empty) W hs (Utf8Tabs_below hT hW))
  clear hs hT
  simp only [rdOf] at hx
  generalize p.f2.getD x.f1.toNat ByteArray.empty = nm at *
  clear hP hK g4 g11 g12 l4 l11 l12 m2 e2 m3 e3
  have r2 := HZ.out.p.c 2
  have q1 := HZ.out.x.c 1
  go_enter Tryd.func37, Tryd.ntmps37
  go_wp2_with (first
    | (go_at_call 51
       with_reducible refine (cq.out _ HZ.out.x.hb).mono ?_
       rintro e v ⟨rfl, hb⟩
       replace HZ := Aside0.mk (HZ.out.next hb)
       clear hb)
    | fail)
  go_ret
  exact ⟨rfl, HZ.out.x.hb⟩
set_option maxHeartbeats 4000000 in
set_option maxRecDepth 100000 in
theorem said_t (p : Plan) (x : Act) (cp cs : List Value) (w : World) (hP : k33.K w p cp) (hK : k42.K w x cs) (h0 : 0 ≤ x.f2) (h1 : x.f2 < (p.f2.length : Int)) (hs : (p.f2.getD x.f2.toNat ByteArray.empty).size ≤ 17592186044416) (hT : Lib.Utf8Tabs 0 1 w) :
    Calls Tryd.prog 37 #[.agg cp.toArray, .agg cs.toArray, .int .i32 116] w (StrB (quoteS (p.f2.getD x.f2.toNat ByteArray.empty)) w) := by
  have P0 := Aside0.mk ((Bx.new w cp 33).push (.cells cs.toArray 42))
  have X0 := Aside0.mk ((Bx.new w cp 33).on cs 42 |>.at_ (show _ = w.heap.size + 1 by simp))
  obtain ⟨A4, c4, A11, c11, A12, c12, rfl, l4, g4, l11, g11, l12, g12⟩ := k42_open hK
  obtain ⟨B2, d2, B3, d3, rfl, m2, e2, m3, e3⟩ := k33_open hP
  have HZ := Aside0.mk (hx_mk P0.out X0.out)
  clear P0 X0
  obtain ⟨ad, e0, hx0⟩ := Kd.at_string e2 x.f2 h0 h1
  cases e0
  have hx := (HZ.out.x.hb.cell (World.block_lt_of_cell? w _ hx0)).trans hx0
  clear hx0
  have cq := Lib.hid (fun W (hW : Below w.heap.size w W) => quote_walk (p.f2.getD x.f2.toNat ByteArray.empty) W hs (Utf8Tabs_below hT hW))
  clear hs hT
  simp only [rdOf] at hx
  generalize p.f2.getD x.f2.toNat ByteArray.empty = nm at *
  clear hP hK g4 g11 g12 l4 l11 l12 m2 e2 m3 e3
  have r2 := HZ.out.p.c 2
  have q2 := HZ.out.x.c 2
  go_enter Tryd.func37, Tryd.ntmps37
  go_wp2_with (first
    | (go_at_call 51
       with_reducible refine (cq.out _ HZ.out.x.hb).mono ?_
       rintro e v ⟨rfl, hb⟩
       replace HZ := Aside0.mk (HZ.out.next hb)
       clear hb)
    | fail)
  go_ret
  exact ⟨rfl, HZ.out.x.hb⟩
set_option maxHeartbeats 4000000 in
set_option maxRecDepth 100000 in
theorem said_k (p : Plan) (x : Act) (cp cs : List Value) (w : World) (hP : k33.K w p cp) (hK : k42.K w x cs) :
    Calls Tryd.prog 37 #[.agg cp.toArray, .agg cs.toArray, .int .i32 107] w (StrB (decS (IntKind.u64.wrap x.f6)) w) := by
  have P0 := Aside0.mk ((Bx.new w cp 33).push (.cells cs.toArray 42))
  have X0 := Aside0.mk ((Bx.new w cp 33).on cs 42 |>.at_ (show _ = w.heap.size + 1 by simp))
  obtain ⟨A4, c4, A11, c11, A12, c12, rfl, l4, g4, l11, g11, l12, g12⟩ := k42_open hK
  obtain ⟨B2, d2, B3, d3, rfl, m2, e2, m3, e3⟩ := k33_open hP
  have HZ := Aside0.mk (hx_mk P0.out X0.out)
  clear P0 X0
  have cq := Lib.hid (fun W => c_dec (IntKind.u64.wrap x.f6) W (wrap_u64_bd _).1 (wrap_u64_bd _).2)
  generalize decS (IntKind.u64.wrap x.f6) = R at *
  clear hP hK g4 g11 g12 l4 l11 l12 m2 e2 m3 e3
  have q6 := HZ.out.x.c 6
  go_enter Tryd.func37, Tryd.ntmps37
  go_wp2_with (first
    | (go_at_call 52
       with_reducible refine (cq.out _).mono ?_
       rintro e v ⟨rfl, hb⟩
       replace HZ := Aside0.mk (HZ.out.next hb)
       clear hb)
    | fail)
  go_ret
  exact ⟨rfl, HZ.out.x.hb⟩
set_option maxHeartbeats 4000000 in
set_option maxRecDepth 100000 in
theorem said_i (p : Plan) (x : Act) (cp cs : List Value) (w : World) (hP : k33.K w p cp) (hK : k42.K w x cs) :
    Calls Tryd.prog 37 #[.agg cp.toArray, .agg cs.toArray, .int .i32 105] w (StrB (decS (IntKind.u64.wrap x.f7)) w) := by
  have P0 := Aside0.mk ((Bx.new w cp 33).push (.cells cs.toArray 42))
  have X0 := Aside0.mk ((Bx.new w cp 33).on cs 42 |>.at_ (show _ = w.heap.size + 1 by simp))
  obtain ⟨A4, c4, A11, c11, A12, c12, rfl, l4, g4, l11, g11, l12, g12⟩ := k42_open hK
  obtain ⟨B2, d2, B3, d3, rfl, m2, e2, m3, e3⟩ := k33_open hP
  have HZ := Aside0.mk (hx_mk P0.out X0.out)
  clear P0 X0
  have cq := Lib.hid (fun W => c_dec (IntKind.u64.wrap x.f7) W (wrap_u64_bd _).1 (wrap_u64_bd _).2)
  generalize decS (IntKind.u64.wrap x.f7) = R at *
  clear hP hK g4 g11 g12 l4 l11 l12 m2 e2 m3 e3
  have q7 := HZ.out.x.c 7
  go_enter Tryd.func37, Tryd.ntmps37
  go_wp2_with (first
    | (go_at_call 52
       with_reducible refine (cq.out _).mono ?_
       rintro e v ⟨rfl, hb⟩
       replace HZ := Aside0.mk (HZ.out.next hb)
       clear hb)
    | fail)
  go_ret
  exact ⟨rfl, HZ.out.x.hb⟩
set_option maxHeartbeats 4000000 in
set_option maxRecDepth 100000 in
theorem said_b (p : Plan) (x : Act) (cp cs : List Value) (w : World) (hP : k33.K w p cp) (hK : k42.K w x cs) :
    Calls Tryd.prog 37 #[.agg cp.toArray, .agg cs.toArray, .int .i32 98] w (StrB (decS (IntKind.u64.wrap x.f9)) w) := by
  have P0 := Aside0.mk ((Bx.new w cp 33).push (.cells cs.toArray 42))
  have X0 := Aside0.mk ((Bx.new w cp 33).on cs 42 |>.at_ (show _ = w.heap.size + 1 by simp))
  obtain ⟨A4, c4, A11, c11, A12, c12, rfl, l4, g4, l11, g11, l12, g12⟩ := k42_open hK
  obtain ⟨B2, d2, B3, d3, rfl, m2, e2, m3, e3⟩ := k33_open hP
  have HZ := Aside0.mk (hx_mk P0.out X0.out)
  clear P0 X0
  have cq := Lib.hid (fun W => c_digits x.f9 W)
  generalize decS (IntKind.u64.wrap x.f9) = R at *
  clear hP hK g4 g11 g12 l4 l11 l12 m2 e2 m3 e3
  have q10 := HZ.out.x.c 10
  go_enter Tryd.func37, Tryd.ntmps37
  go_wp2_with (first
    | (go_at_call 53
       with_reducible refine (cq.out _).mono ?_
       rintro e v ⟨rfl, hb⟩
       replace HZ := Aside0.mk (HZ.out.next hb)
       clear hb)
    | fail)
  go_ret
  exact ⟨rfl, HZ.out.x.hb⟩
set_option maxHeartbeats 4000000 in
set_option maxRecDepth 100000 in
theorem said_n (p : Plan) (x : Act) (cp cs : List Value) (w : World) (hP : k33.K w p cp) (hK : k42.K w x cs) :
    Calls Tryd.prog 37 #[.agg cp.toArray, .agg cs.toArray, .int .i32 110] w (StrB (decS (IntKind.u64.wrap x.f9)) w) := by
  have P0 := Aside0.mk ((Bx.new w cp 33).push (.cells cs.toArray 42))
  have X0 := Aside0.mk ((Bx.new w cp 33).on cs 42 |>.at_ (show _ = w.heap.size + 1 by simp))
  obtain ⟨A4, c4, A11, c11, A12, c12, rfl, l4, g4, l11, g11, l12, g12⟩ := k42_open hK
  obtain ⟨B2, d2, B3, d3, rfl, m2, e2, m3, e3⟩ := k33_open hP
  have HZ := Aside0.mk (hx_mk P0.out X0.out)
  clear P0 X0
  have cq := Lib.hid (fun W => c_digits x.f9 W)
  generalize decS (IntKind.u64.wrap x.f9) = R at *
  clear hP hK g4 g11 g12 l4 l11 l12 m2 e2 m3 e3
  have q10 := HZ.out.x.c 10
  go_enter Tryd.func37, Tryd.ntmps37
  go_wp2_with (first
    | (go_at_call 53
       with_reducible refine (cq.out _).mono ?_
       rintro e v ⟨rfl, hb⟩
       replace HZ := Aside0.mk (HZ.out.next hb)
       clear hb)
    | fail)
  go_ret
  exact ⟨rfl, HZ.out.x.hb⟩
set_option maxHeartbeats 4000000 in
set_option maxRecDepth 100000 in
theorem said_w (p : Plan) (x : Act) (cp cs : List Value) (w : World) (hP : k33.K w p cp) (hK : k42.K w x cs) (hb : Bytes x.f10) (hl : x.f10.length ≤ 1048576) :
    Calls Tryd.prog 37 #[.agg cp.toArray, .agg cs.toArray, .int .i32 119] w (StrB (strOfNums (hexS x.f10)) w) := by
  have P0 := Aside0.mk ((Bx.new w cp 33).push (.cells cs.toArray 42))
  have X0 := Aside0.mk ((Bx.new w cp 33).on cs 42 |>.at_ (show _ = w.heap.size + 1 by simp))
  obtain ⟨A4, c4, A11, c11, A12, c12, rfl, l4, g4, l11, g11, l12, g12⟩ := k42_open hK
  obtain ⟨B2, d2, B3, d3, rfl, m2, e2, m3, e3⟩ := k33_open hP
  have HZ := Aside0.mk (hx_mk P0.out X0.out)
  clear P0 X0
  have cq := Lib.hid (fun W (hW : Below w.heap.size w W) => c_hex A11 c11 x.f10 W (Kd.C_below g11 hW) l11 hb hl)
  clear hb hl
  generalize strOfNums (hexS x.f10) = R at *
  clear hP hK g4 g11 g12 l4 l11 l12 m2 e2 m3 e3
  have q11 := HZ.out.x.c 11
  go_enter Tryd.func37, Tryd.ntmps37
  go_wp2_with (first
    | (go_at_call 54
       with_reducible refine (cq.out _ HZ.out.x.hb).mono ?_
       rintro e v ⟨rfl, hb⟩
       replace HZ := Aside0.mk (HZ.out.next hb)
       clear hb)
    | fail)
  go_ret
  exact ⟨rfl, HZ.out.x.hb⟩
set_option maxHeartbeats 4000000 in
set_option maxRecDepth 100000 in
theorem said_x (p : Plan) (x : Act) (cp cs : List Value) (w : World) (hP : k33.K w p cp) (hK : k42.K w x cs) (hb : Bytes x.f10) (hl : x.f10.length ≤ 1048576) :
    Calls Tryd.prog 37 #[.agg cp.toArray, .agg cs.toArray, .int .i32 120] w (StrB (strOfNums (hexS x.f10)) w) := by
  have P0 := Aside0.mk ((Bx.new w cp 33).push (.cells cs.toArray 42))
  have X0 := Aside0.mk ((Bx.new w cp 33).on cs 42 |>.at_ (show _ = w.heap.size + 1 by simp))
  obtain ⟨A4, c4, A11, c11, A12, c12, rfl, l4, g4, l11, g11, l12, g12⟩ := k42_open hK
  obtain ⟨B2, d2, B3, d3, rfl, m2, e2, m3, e3⟩ := k33_open hP
  have HZ := Aside0.mk (hx_mk P0.out X0.out)
  clear P0 X0
  have cq := Lib.hid (fun W (hW : Below w.heap.size w W) => c_hex A11 c11 x.f10 W (Kd.C_below g11 hW) l11 hb hl)
  clear hb hl
  generalize strOfNums (hexS x.f10) = R at *
  clear hP hK g4 g11 g12 l4 l11 l12 m2 e2 m3 e3
  have q11 := HZ.out.x.c 11
  go_enter Tryd.func37, Tryd.ntmps37
  go_wp2_with (first
    | (go_at_call 54
       with_reducible refine (cq.out _ HZ.out.x.hb).mono ?_
       rintro e v ⟨rfl, hb⟩
       replace HZ := Aside0.mk (HZ.out.next hb)
       clear hb)
    | fail)
  go_ret
  exact ⟨rfl, HZ.out.x.hb⟩
set_option maxHeartbeats 4000000 in
set_option maxRecDepth 100000 in
theorem said_m (p : Plan) (x : Act) (cp cs : List Value) (w : World) (hP : k33.K w p cp) (hK : k42.K w x cs) (hs : (strOfNums x.f10).size ≤ 17592186044416) (hT : Lib.Utf8Tabs 0 1 w) :
    Calls Tryd.prog 37 #[.agg cp.toArray, .agg cs.toArray, .int .i32 109] w (StrB (quoteS (strOfNums x.f10)) w) := by
  have P0 := Aside0.mk ((Bx.new w cp 33).push (.cells cs.toArray 42))
  have X0 := Aside0.mk ((Bx.new w cp 33).on cs 42 |>.at_ (show _ = w.heap.size + 1 by simp))
  obtain ⟨A4, c4, A11, c11, A12, c12, rfl, l4, g4, l11, g11, l12, g12⟩ := k42_open hK
  obtain ⟨B2, d2, B3, d3, rfl, m2, e2, m3, e3⟩ := k33_open hP
  have HZ := Aside0.mk (hx_mk P0.out X0.out)
  clear P0 X0
  have hcv := Kd.C_string (P := Tryd.prog) (A := A11) (c := c11) Tryd.underlying39 Tryd.underlying5 Tryd.underlying9 (Kd.C_below g11 HZ.out.x.hb)
  have cq := Lib.hid (fun W (hW : Below w.heap.size w W) => quote_walk (strOfNums x.f10) W hs (Utf8Tabs_below hT hW))
  clear hs hT
  clear hP hK g4 g11 g12 l4 l11 l12 m2 e2 m3 e3
  have q11 := HZ.out.x.c 11
  go_enter Tryd.func37, Tryd.ntmps37
  go_wp2_with (first
    | (go_at_call 51
       with_reducible refine (cq.out _ HZ.out.x.hb).mono ?_
       rintro e v ⟨rfl, hb⟩
       replace HZ := Aside0.mk (HZ.out.next hb)
       clear hb)
    | fail)
  go_ret
  exact ⟨rfl, HZ.out.x.hb⟩
set_option maxHeartbeats 4000000 in
set_option maxRecDepth 100000 in
theorem said_r (p : Plan) (x : Act) (cp cs : List Value) (w : World) (hP : k33.K w p cp) (hK : k42.K w x cs) (h0 : 0 ≤ x.f8.f0) (h1 : x.f8.f0 < 18446744073709551616) (h2 : 0 ≤ x.f8.f1) (h3 : x.f8.f1 < 18446744073709551616) :
    Calls Tryd.prog 37 #[.agg cp.toArray, .agg cs.toArray, .int .i32 114] w (StrB ((decS x.f8.f0 ++ ⟨#[32]⟩) ++ decS x.f8.f1) w) := by
  have P0 := Aside0.mk ((Bx.new w cp 33).push (.cells cs.toArray 42))
  have X0 := Aside0.mk ((Bx.new w cp 33).on cs 42 |>.at_ (show _ = w.heap.size + 1 by simp))
  obtain ⟨A4, c4, A11, c11, A12, c12, rfl, l4, g4, l11, g11, l12, g12⟩ := k42_open hK
  obtain ⟨B2, d2, B3, d3, rfl, m2, e2, m3, e3⟩ := k33_open hP
  have HZ := Aside0.mk (hx_mk P0.out X0.out)
  clear P0 X0
  have c1 := Lib.hid (fun W => c_dec x.f8.f0 W h0 h1)
  have c2 := Lib.hid (fun W => c_dec x.f8.f1 W h2 h3)
  have z1 : (decS x.f8.f0).size ≤ 20 := decS_size _ h1
  have z2 : (decS x.f8.f1).size ≤ 20 := decS_size _ h3
  clear h0 h1 h2 h3
  generalize decS x.f8.f0 = R1 at *
  generalize decS x.f8.f1 = R2 at *
  have f1 : R1.size + 1 ≤ 9223372036854775807 := by omega
  have f2 : (R1 ++ ⟨#[32]⟩ : ByteArray).size + R2.size ≤ 9223372036854775807 := by rw [ByteArray.size_append]; show _ + 1 + _ ≤ _; omega
  have k1 := fun W => run_string_add_sum (P := Tryd.prog) W R1 (⟨#[32]⟩ : ByteArray) f1
  have k2 := fun W => run_string_add_sum (P := Tryd.prog) W (R1 ++ ⟨#[32]⟩ : ByteArray) R2 f2
  clear hP hK g4 g11 g12 l4 l11 l12 m2 e2 m3 e3
  have q8 := HZ.out.x.c 8
  have q9 := HZ.out.x.c 9
  go_enter Tryd.func37, Tryd.ntmps37
  go_upto_region 20 with fail
  refine wp_region_held_drew (S := HX w 33 42 w.heap.size (w.heap.size + 1) (.int .i64 p.f0) (.int .i64 p.f1) (.slice B2 p.f2.length d2) (.slice B3 p.f3.length d3) (.int .i64 x.f0) (.int .i64 x.f1) (.int .i64 x.f2) (.int .i64 x.f3) (.slice A4 x.f4.length c4) (.int .u32 x.f5) (.int .u32 x.f6) (.int .u32 x.f7) (.int .u64 x.f8.f0) (.int .u64 x.f8.f1) (.int .i64 x.f9) (.slice A11 x.f10.length c11) (.slice A12 x.f11.length c12)) (by kernel_rfl) (HZ.out.drew) (fun hHeld => ?_)
  apply tkH 0
  apply tkH 1
  apply tkH 2
  apply tkH 5
  apply tkH 6
  apply tkH 7
  refine wpAnyH_ready (rs := [3]) (by kernel_rfl) (by simp) ?_
  refine AllReadyH.cons rfl (fun K hK => ?_) AllReadyH.nil
  go_simp
  go_at_call 52
  with_reducible refine (c1.out _).mono ?_
  rintro e u1 ⟨rfl, hbz⟩
  try go_wp2_with fail
  refine hK.out _ _ (hHeld.next hbz) ?_
  clear hHeld hbz hK K
  intro hHeld
  try simp only [Act.put, List.setIfInBounds_toArray, List.set_cons_zero, List.set_cons_succ, List.getElem_toArray, List.getElem_cons_succ, List.getElem_cons_zero]
  apply tkH 4
  refine wpAnyH_ready (rs := [8]) (by kernel_rfl) (by simp) ?_
  refine AllReadyH.cons rfl (fun K hK => ?_) AllReadyH.nil
  go_simp
  go_at_call 52
  with_reducible refine (c2.out _).mono ?_
  rintro e u2 ⟨rfl, hbz⟩
  try go_wp2_with fail
  refine hK.out _ _ (hHeld.next hbz) ?_
  clear hHeld hbz hK K
  intro hHeld
  try simp only [Act.put, List.setIfInBounds_toArray, List.set_cons_zero, List.set_cons_succ, List.getElem_toArray, List.getElem_cons_succ, List.getElem_cons_zero]
  apply tkH 9
  apply tkH 10
  refine wpAnyH_done (by kernel_rfl) ?_ _
  go_wp2_with fail
  go_ret
  exact ⟨rfl, hHeld.x.hb⟩
set_option maxHeartbeats 4000000 in
set_option maxRecDepth 100000 in
theorem said_s (p : Plan) (x : Act) (cp cs : List Value) (w : World) (hP : k33.K w p cp) (hK : k42.K w x cs) (hx : ActBd x) (hl : x.f4.length ≤ 1048576) :
    Calls Tryd.prog 37 #[.agg cp.toArray, .agg cs.toArray, .int .i32 115] w (StrB (setsB x) w) := by
  have P0 := Aside0.mk ((Bx.new w cp 33).push (.cells cs.toArray 42))
  have X0 := Aside0.mk ((Bx.new w cp 33).on cs 42 |>.at_ (show _ = w.heap.size + 1 by simp))
  have hKK := hK
  obtain ⟨A4, c4, A11, c11, A12, c12, rfl, l4, g4, l11, g11, l12, g12⟩ := k42_open hK
  obtain ⟨B2, d2, B3, d3, rfl, m2, e2, m3, e3⟩ := k33_open hP
  have HZ := Aside0.mk (hx_mk P0.out X0.out)
  clear P0 X0
  have cq := Lib.hid (fun W (hW : Below w.heap.size w W) => c_setsOf x _ W (k42.K_below hW hKK) hx hl)
  clear hx hl hKK
  generalize setsB x = R at *
  clear hP hK g4 g11 g12 l4 l11 l12 m2 e2 m3 e3
  have q0 := HZ.out.x.c 0
  have q1 := HZ.out.x.c 1
  have q2 := HZ.out.x.c 2
  have q3 := HZ.out.x.c 3
  have q4 := HZ.out.x.c 4
  have q5 := HZ.out.x.c 5
  have q6 := HZ.out.x.c 6
  have q7 := HZ.out.x.c 7
  have q8 := HZ.out.x.c 8
  have q9 := HZ.out.x.c 9
  have q10 := HZ.out.x.c 10
  have q11 := HZ.out.x.c 11
  have q12 := HZ.out.x.c 12
  go_enter Tryd.func37, Tryd.ntmps37
  go_wp2_with (first
    | (go_at_call 55
       with_reducible refine (cq.out _ HZ.out.x.hb).mono ?_
       rintro e v ⟨rfl, hb⟩
       replace HZ := Aside0.mk (HZ.out.next hb)
       clear hb)
    | fail)
  go_ret
  exact ⟨rfl, HZ.out.x.hb⟩
set_option maxHeartbeats 4000000 in
set_option maxRecDepth 100000 in
theorem said_p (p : Plan) (x : Act) (cp cs : List Value) (w : World) (hP : k33.K w p cp) (hK : k42.K w x cs) (hl : x.f11.length ≤ 1048576) :
    Calls Tryd.prog 37 #[.agg cp.toArray, .agg cs.toArray, .int .i32 112] w (StrB (pickS x.f11) w) := by
  have P0 := Aside0.mk ((Bx.new w cp 33).push (.cells cs.toArray 42))
  have X0 := Aside0.mk ((Bx.new w cp 33).on cs 42 |>.at_ (show _ = w.heap.size + 1 by simp))
  obtain ⟨A4, c4, A11, c11, A12, c12, rfl, l4, g4, l11, g11, l12, g12⟩ := k42_open hK
  obtain ⟨B2, d2, B3, d3, rfl, m2, e2, m3, e3⟩ := k33_open hP
  have HZ := Aside0.mk (hx_mk P0.out X0.out)
  clear P0 X0
  have cq := Lib.hid (fun W (hW : Below w.heap.size w W) => c_picked A12 c12 x.f11 W (Kd.C_below g12 hW) l12 hl)
  clear hl
  clear hP hK g4 g11 g12 l4 l11 l12 m2 e2 m3 e3
  have q12 := HZ.out.x.c 12
  go_enter Tryd.func37, Tryd.ntmps37
  go_wp2_with (first
    | (go_at_call 56
       with_reducible refine (cq.out _ HZ.out.x.hb).mono ?_
       rintro e v ⟨rfl, hb⟩
       replace HZ := Aside0.mk (HZ.out.next hb)
       clear hb)
    | fail)
  go_ret
  exact ⟨rfl, HZ.out.x.hb⟩
end Go.Proofs.YtpdinahdcedmkaaDoor.Ext
