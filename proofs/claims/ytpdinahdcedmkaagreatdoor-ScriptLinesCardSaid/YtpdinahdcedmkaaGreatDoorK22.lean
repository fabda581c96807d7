import Derived.Test.YtpdinahdcedmkaaGreatDoorK19
import Derived.Test.YtpdinahdcedmkaaGreatDoorHRSame
import Derived.Test.YtpdinahdcedmkaaGreatDoorK11
import Derived.Lib.SlBytesConst
import Derived.Test.YtpdinahdcedmkaaGreatDoorK13
import Derived.Test.YtpdinahdcedmkaaGreatDoorK4
import Derived.Test.YtpdinahdcedmkaaGreatDoorK5
import Derived.Test.YtpdinahdcedmkaaGreatDoorK8
import Derived.Test.YtpdinahdcedmkaaGreatDoorWWords
import Derived.Test.YtpdinahdcedmkaaGreatDoorWRest
set_option linter.unusedVariables false
set_option linter.unusedSimpArgs false
set_option maxHeartbeats 16000000
set_option maxRecDepth 100000
/- script.Line, and that the same acts are the same. -/
namespace Go.Proofs.YtpdinahdcedmkaaGreatDoor.Ext
open Go.Proofs.YtpdinahdcedmkaaGreatDoor.P
open Go.RowKit YtpdinahdcedmkaaGreatDoorW.PrintWords YtpdinahdcedmkaaGreatDoorW.PrintLast YtpdinahdcedmkaaGreatDoorW.PrintMore Go.Proofs.YtpdinahdcedmkaaGreatDoor.Spec
def lineE (p : Plan) (x : Act) : ByteArray × Int := if headedS p.f0 p.f1 p.f2 = true /\ mayS p.f2.length x = true then (lineB p.f2 x, 0) else (⟨#[]⟩, 270)
theorem c_SLine (p : Plan) (x : Act) (cp cs : List Value) (w : World) (hP : k25.K w p cp) (hK : k34.K w x cs) (hp : PlanBd p) (hx : ActBd x) (h : mayS p.f2.length x = true -> SayOk p.f2 x) (hT : Lib.Utf8Tabs 1 2 w) :
 Calls Tryz.prog 11 #[.agg cp.toArray, .agg cs.toArray] w (StrE (lineE p x).1 (lineE p x).2 w) := by
 have ch := Lib.hid (fun W (hW : Below w.heap.size w W) => c_head p cp W (k25.K_below hW hP) hp)
 have cm := Lib.hid (fun W (hW : Below w.heap.size w W) => c_may p x cp cs W (k25.K_below hW hP) (k34.K_below hW hK) hx)
 have cl := Lib.hid (fun (hm : mayS p.f2.length x = true) W (hW : Below w.heap.size w W) => c_line p x cp cs W (k25.K_below hW hP) (k34.K_below hW hK) (h hm) (Utf8Tabs_below hT hW))
 have P0 := Zz.mk ((Bx.new w cp 25).push (.cells cs.toArray 34))
 have X0 := Zz.mk ((Bx.new w cp 25).on cs 34 |>.at_ (show _ = w.heap.size + 1 by simp))
 unfold lineE
 obtain ⟨A4, c4, A11, c11, A12, c12, rfl, l4, g4, l11, g11, l12, g12⟩ := k34_open hK
 obtain ⟨B2, d2, B3, d3, rfl, m2, e2, m3, e3⟩ := k25_open hP
 have HZ := Zz.mk (hx_mk P0.out X0.out)
 clear P0 X0 hP hK g4 g11 g12 l4 l11 l12 m2 e2 m3 e3 h hT hp hx
 generalize headedS p.f0 p.f1 p.f2 = H at *
 generalize mayS p.f2.length x = M at *
 generalize lineB p.f2 x = L at *
 obtain ⟨r0, r1, r2, r3⟩ := cxs4 HZ.out.p
 obtain ⟨q0, q1, q2, q3, q4, q5, q6, q7, q8, q9, q10, q11, q12⟩ := cxs13 HZ.out.x
 cases H with
 | false =>
   clear cm cl
   rw [if_neg (by simp)]
   show Calls _ _ _ _ (StrE ⟨#[]⟩ 270 w)
   go_enter Tryz.func11, Tryz.ntmps11
   go_wp2_with fail
   refine (ch.out _ HZ.out.x.hb).mono ?_
   rintro e v ⟨rfl, hb⟩
   replace HZ := Zz.mk (HZ.out.next hb)
   clear hb q0 q1 q2 q3 q4 q5 q6 q7 q8 q9 q10 q11 q12 r0 r1 r2 r3
   obtain ⟨r0, r1, r2, r3⟩ := cxs4 HZ.out.p
   obtain ⟨q0, q1, q2, q3, q4, q5, q6, q7, q8, q9, q10, q11, q12⟩ := cxs13 HZ.out.x
   clear ch
   go_wp2_with fail
   go_ret2
   exact ⟨rfl, HZ.out.x.hb⟩
 | true =>
   cases M with
   | false =>
     clear cl
     rw [if_neg (by simp)]
     show Calls _ _ _ _ (StrE ⟨#[]⟩ 270 w)
     go_enter Tryz.func11, Tryz.ntmps11
     go_wp2_with fail
     refine (ch.out _ HZ.out.x.hb).mono ?_
     rintro e v ⟨rfl, hb⟩
     replace HZ := Zz.mk (HZ.out.next hb)
     clear hb q0 q1 q2 q3 q4 q5 q6 q7 q8 q9 q10 q11 q12 r0 r1 r2 r3
     obtain ⟨r0, r1, r2, r3⟩ := cxs4 HZ.out.p
     obtain ⟨q0, q1, q2, q3, q4, q5, q6, q7, q8, q9, q10, q11, q12⟩ := cxs13 HZ.out.x
     clear ch
     go_wp2_with fail
     refine (cm.out _ HZ.out.x.hb).mono ?_
     rintro e v ⟨rfl, hb⟩
     replace HZ := Zz.mk (HZ.out.next hb)
     clear hb q0 q1 q2 q3 q4 q5 q6 q7 q8 q9 q10 q11 q12 r0 r1 r2 r3
     obtain ⟨r0, r1, r2, r3⟩ := cxs4 HZ.out.p
     obtain ⟨q0, q1, q2, q3, q4, q5, q6, q7, q8, q9, q10, q11, q12⟩ := cxs13 HZ.out.x
     clear cm
     go_wp2_with fail
     go_ret2
     exact ⟨rfl, HZ.out.x.hb⟩
   | true =>
     rw [if_pos ⟨rfl, rfl⟩]
     show Calls _ _ _ _ (StrE L 0 w)
     replace cl := Lib.hid (cl.out rfl)
     go_enter Tryz.func11, Tryz.ntmps11
     go_wp2_with fail
     refine (ch.out _ HZ.out.x.hb).mono ?_
     rintro e v ⟨rfl, hb⟩
     replace HZ := Zz.mk (HZ.out.next hb)
     clear hb q0 q1 q2 q3 q4 q5 q6 q7 q8 q9 q10 q11 q12 r0 r1 r2 r3
     obtain ⟨r0, r1, r2, r3⟩ := cxs4 HZ.out.p
     obtain ⟨q0, q1, q2, q3, q4, q5, q6, q7, q8, q9, q10, q11, q12⟩ := cxs13 HZ.out.x
     clear ch
     go_wp2_with fail
     refine (cm.out _ HZ.out.x.hb).mono ?_
     rintro e v ⟨rfl, hb⟩
     replace HZ := Zz.mk (HZ.out.next hb)
     clear hb q0 q1 q2 q3 q4 q5 q6 q7 q8 q9 q10 q11 q12 r0 r1 r2 r3
     obtain ⟨r0, r1, r2, r3⟩ := cxs4 HZ.out.p
     obtain ⟨q0, q1, q2, q3, q4, q5, q6, q7, q8, q9, q10, q11, q12⟩ := cxs13 HZ.out.x
     clear cm
     go_wp2_with fail
     refine (cl.out _ HZ.out.x.hb).mono ?_
     rintro e v ⟨rfl, hb⟩
     replace HZ := Zz.mk (HZ.out.next hb)
     clear hb q0 q1 q2 q3 q4 q5 q6 q7 q8 q9 q10 q11 q12 r0 r1 r2 r3
     obtain ⟨r0, r1, r2, r3⟩ := cxs4 HZ.out.p
     obtain ⟨q0, q1, q2, q3, q4, q5, q6, q7, q8, q9, q10, q11, q12⟩ := cxs13 HZ.out.x
     clear cl
     go_wp2_with fail
     go_ret2
     exact ⟨rfl, HZ.out.x.hb⟩
theorem eqBy_refl1 {α : Type} (q : α -> α -> Bool) (h : ∀ x, q x x = true) : ∀ l : List α, eqBy q l l = true
 | [] => by unfold eqBy; rfl
 | x :: t => by unfold eqBy; rw [h x, eqBy_refl1 q h t]; rfl
theorem sameA_self (x : Act) : sameA x x = true := by
 unfold sameA
 rw [eqBy_refl1 lvq (fun v => by simp [lvq]), eqBy_refl1 boq (fun v => by simp [boq])]
 simp
def signT : ByteArray := ⟨#[115, 105, 103, 110, 32, 34, 97, 108, 112, 104, 97, 34, 32, 50, 53, 54, 32, 34, 104, 101, 108, 108, 111, 34]⟩
def lvT : ByteArray := ⟨#[99, 114, 97, 115, 104, 32, 34, 98, 34, 32, 43, 45, 43]⟩
def lvN : List ByteArray := [⟨#[97, 108, 112, 104, 97]⟩, ⟨#[98]⟩]
def lvP : Plan := ⟨8, 1, lvN, []⟩
def lvX : Act := { z34 with f0 := 3, f6 := 256, f10 := [104, 101, 108, 108, 111] }
def lvY : Act := { z34 with f0 := 16, f1 := 1, f11 := [true, false, true] }
theorem live_line : lineE lvP lvX = (signT, 0) := by decide +kernel
theorem live_head : headedS lvP.f0 lvP.f1 lvP.f2 = true := by decide +kernel
theorem live_may : mayS lvP.f2.length lvY = true := by decide +kernel
theorem live_text : lineB lvP.f2 lvY = lvT := by decide +kernel
theorem lv_sizes (n : Nat) (hn : 5 <= n) : ∀ i, (lvP.f2.getD i ByteArray.empty).size <= n := by
 intro i
 match i with
 | 0 => exact hn
 | 1 => exact Nat.le_trans (by decide) hn
 | i + 2 => exact Nat.zero_le _
theorem lv_acts : ∀ i, ActBd (([] : List Act).getD i z34) := fun i => by exact ⟨fun j => by exact ⟨u32z, u32z⟩, u32z⟩
theorem lv_bd : PlanBd lvP := ⟨by decide, lv_sizes _ (by decide), lv_acts⟩
theorem lv_ok (d : Int) (k : Int) (l : List Int) (m : List Bool) (dv : Int) (hd : -9223372036854775808 <= d /\ d <= 9223372036854775807) (hv : -9223372036854775808 <= dv /\ dv <= 9223372036854775807) (hk : u32P k) (hl : Bytes l) : ActOk { z34 with f0 := d, f1 := dv, f6 := k, f10 := l, f11 := m } :=
 ⟨⟨fun j => by exact ⟨u32z, u32z⟩, u32z⟩, hl, ⟨u64z, u64z⟩, hk, u32z, fun n hn => by
   simp only [List.mem_cons, List.not_mem_nil, or_false] at hn
   rcases hn with rfl | rfl | rfl | rfl | rfl
   · exact hd
   · exact hv
   · exact ⟨by decide, by decide⟩
   · exact ⟨by decide, by decide⟩
   · exact ⟨by decide, by decide⟩⟩
theorem lvX_ok : ActOk lvX := lv_ok 3 256 _ _ 0 ⟨by decide, by decide⟩ ⟨by decide, by decide⟩ ⟨by decide, by decide⟩ (by unfold Bytes; decide)
theorem lvY_ok : ActOk lvY := lv_ok 16 0 _ _ 1 ⟨by decide, by decide⟩ ⟨by decide, by decide⟩ u32z (by unfold Bytes; decide)
theorem live_act : actS lvP lvT = some lvY := by
 have h := act_back (p := lvP) lvY_ok live_head live_may
 rwa [live_text] at h
theorem C_row {α : Type} {enc : α -> Value} {h1 : ∀ x, (enc x).oneCell' = true} {W : World} {b : Nat} {t : TypeId} {fr : Nat × Nat} (l : List α) (h : W.heap[b]? = some (.cells (l.map enc).toArray t fr)) (hl : l.length <= 1000) : Kd.C (Kd.scalar enc h1) W (some ⟨b, 0, none⟩) l.length l := by
 refine ⟨rfl, by omega, fun _ => ⟨_, rfl, fun j p hj => ⟨[enc p], rfl, rfl, fun i u hu => ?_⟩⟩⟩
 match i, hu with
 | 0, hu =>
   simp only [List.getElem?_cons_zero, Option.some.injEq] at hu
   subst hu
   have e : (⟨b, 0, none⟩ : Addr).add (j * 1 + 0) = ⟨b, j, none⟩ := by unfold Addr.add; by_cases h : j = 0 <;> simp [h]
   show W.cell? ((⟨b, 0, none⟩ : Addr).add (j * 1 + 0)) = _
   rw [e, cell_of_row W b j _ t fr h]
   simp [hj]
 | (n + 1), hu => simp at hu
theorem live_walk (w : World) (hT : Lib.Utf8Tabs 1 2 w) :
 Calls Tryz.prog 8 #[] w fun e w' => e = .returned (.bool true) /\ Below w.heap.size w w' := by
 have hcv := Lib.run_convert_bytes_const (P := Tryz.prog) ((w.alloc (.cells #[.string ⟨#[97, 108, 112, 104, 97]⟩, .string ⟨#[98]⟩] 9)).alloc (.cells #[.int .i64 8, .int .i64 1, .slice (some ⟨w.heap.size, 0, none⟩) 2 2, .slice none 0 0] 25)) 31 5 #[.int .u8 104, .int .u8 101, .int .u8 108, .int .u8 108, .int .u8 111] 5 5 Tryz.underlying31 Tryz.underlying5
 rw [show ((w.alloc (.cells #[.string ⟨#[97, 108, 112, 104, 97]⟩, .string ⟨#[98]⟩] 9)).alloc (.cells #[.int .i64 8, .int .i64 1, .slice (some ⟨w.heap.size, 0, none⟩) 2 2, .slice none 0 0] 25)).heap.size = w.heap.size + 1 + 1 by simp, show (#[.int .u8 104, .int .u8 101, .int .u8 108, .int .u8 108, .int .u8 111] : Array Value).size = 5 from rfl] at hcv
 have hsl : signT.toList = [115, 105, 103, 110, 32, 34, 97, 108, 112, 104, 97, 34, 32, 50, 53, 54, 32, 34, 104, 101, 108, 108, 111, 34] := by decide +kernel
 go_enter Tryz.func8, Tryz.ntmps8
 go_wp2_with fail
 have HS : Zz ((((w.alloc (.cells #[.string ⟨#[97, 108, 112, 104, 97]⟩, .string ⟨#[98]⟩] 9)).alloc (.cells #[.int .i64 8, .int .i64 1, .slice (some ⟨w.heap.size, 0, none⟩) 2 2, .slice none 0 0] 25)).alloc (.cells #[.int .u8 104, .int .u8 101, .int .u8 108, .int .u8 108, .int .u8 111] 5 (5, 6))).heap[w.heap.size]? = some (.cells #[.string ⟨#[97, 108, 112, 104, 97]⟩, .string ⟨#[98]⟩] 9)) := ⟨knew (knew (heap_alloc_new w _))⟩
 have HP : Zz ((((w.alloc (.cells #[.string ⟨#[97, 108, 112, 104, 97]⟩, .string ⟨#[98]⟩] 9)).alloc (.cells #[.int .i64 8, .int .i64 1, .slice (some ⟨w.heap.size, 0, none⟩) 2 2, .slice none 0 0] 25)).alloc (.cells #[.int .u8 104, .int .u8 101, .int .u8 108, .int .u8 108, .int .u8 111] 5 (5, 6))).heap[w.heap.size + 1]? = some (.cells #[.int .i64 8, .int .i64 1, .slice (some ⟨w.heap.size, 0, none⟩) 2 2, .slice none 0 0] 25)) := ⟨knew (by have h := heap_alloc_new (w.alloc (.cells #[.string ⟨#[97, 108, 112, 104, 97]⟩, .string ⟨#[98]⟩] 9)) (.cells #[.int .i64 8, .int .i64 1, .slice (some ⟨w.heap.size, 0, none⟩) 2 2, .slice none 0 0] 25); simpa using h)⟩
 have HY : Zz ((((w.alloc (.cells #[.string ⟨#[97, 108, 112, 104, 97]⟩, .string ⟨#[98]⟩] 9)).alloc (.cells #[.int .i64 8, .int .i64 1, .slice (some ⟨w.heap.size, 0, none⟩) 2 2, .slice none 0 0] 25)).alloc (.cells #[.int .u8 104, .int .u8 101, .int .u8 108, .int .u8 108, .int .u8 111] 5 (5, 6))).heap[w.heap.size + 2]? = some (.cells #[.int .u8 104, .int .u8 101, .int .u8 108, .int .u8 108, .int .u8 111] 5 (5, 6))) := ⟨by have h := heap_alloc_new ((w.alloc (.cells #[.string ⟨#[97, 108, 112, 104, 97]⟩, .string ⟨#[98]⟩] 9)).alloc (.cells #[.int .i64 8, .int .i64 1, .slice (some ⟨w.heap.size, 0, none⟩) 2 2, .slice none 0 0] 25)) (.cells #[.int .u8 104, .int .u8 101, .int .u8 108, .int .u8 108, .int .u8 111] 5 (5, 6)); rw [show ((w.alloc (.cells #[.string ⟨#[97, 108, 112, 104, 97]⟩, .string ⟨#[98]⟩] 9)).alloc (.cells #[.int .i64 8, .int .i64 1, .slice (some ⟨w.heap.size, 0, none⟩) 2 2, .slice none 0 0] 25)).heap.size = w.heap.size + 2 by simp] at h; exact h⟩
 have HB := Zz.mk ((((Below.refl w.heap.size w).alloc (Nat.le_refl _) (.cells #[.string ⟨#[97, 108, 112, 104, 97]⟩, .string ⟨#[98]⟩] 9)).alloc (by simp) (.cells #[.int .i64 8, .int .i64 1, .slice (some ⟨w.heap.size, 0, none⟩) 2 2, .slice none 0 0] 25)).alloc (by simp; omega) (.cells #[.int .u8 104, .int .u8 101, .int .u8 108, .int .u8 108, .int .u8 111] 5 (5, 6)))
 have cS := c_SLine lvP lvX _ _ _ (k25_mk _ lvP (A2 := some ⟨w.heap.size, 0, none⟩) (c2 := 2) (by decide) (C_row lvN HS.out (by decide)) (A3 := none) (c3 := 0) (Nat.zero_le _) (Kd.C_nil _ _)) (k34_mk _ lvX (A4 := none) (c4 := 0) (Nat.zero_le _) (Kd.C_nil _ _) (A11 := some ⟨w.heap.size + 2, 0, none⟩) (c11 := 5) (by decide) (C_row [104, 101, 108, 108, 111] HY.out (by decide)) (A12 := none) (c12 := 0) (Nat.zero_le _) (Kd.C_nil _ _)) lv_bd lvX_ok.bd (fun hm => say_ok (lv_sizes _ (by decide)) lvX_ok (by decide +kernel) hm) (Utf8Tabs_below hT HB.out)
 rw [live_line] at cS
 refine Calls.mono (show Calls Tryz.prog 11 #[.agg #[.int .i64 8, .int .i64 1, .slice (some ⟨w.heap.size, 0, none⟩) 2 2, .slice none 0 0], .agg #[.int .i64 3, .int .i64 0, .int .i64 0, .int .i64 0, .slice none 0 0, .int .u32 0, .int .u32 256, .int .u32 0, .int .u64 0, .int .u64 0, .int .i64 0, .slice (some ⟨w.heap.size + 2, 0, none⟩) 5 5, .slice none 0 0]] _ _ from cS) ?_
 rintro e v1 ⟨rfl, hb1⟩
 have HS1 := Zz.mk (krow HS.out hb1)
 have HP1 := Zz.mk (krow HP.out hb1)
 have HB1 := Zz.mk (HB.out.trans (hb1.mono HB.out.size))
 have cA : Calls Tryz.prog 13 #[.agg #[.int .i64 8, .int .i64 1, .slice (some ⟨w.heap.size, 0, none⟩) 2 2, .slice none 0 0], .string lvT] v1 (fun e w' => ∃ A0 c0 A1 c1 A2 c2, e = .returned (.tuple #[.agg #[.int .i64 16, .int .i64 1, .int .i64 0, .int .i64 0, .slice A0 0 c0, .int .u32 0, .int .u32 0, .int .u32 0, .int .u64 0, .int .u64 0, .int .i64 0, .slice A1 0 c1, .slice A2 3 c2], .int .i64 0]) /\ Kd.C Kd.bool w' A2 3 [true, false, true] /\ Below v1.heap.size v1 w') := by
  have key := c_Act lvP _ lvT v1 (k25_mk _ lvP (A2 := some ⟨w.heap.size, 0, none⟩) (c2 := 2) (by decide) (C_row lvN HS1.out (by decide)) (A3 := none) (c3 := 0) (Nat.zero_le _) (Kd.C_nil _ _)) lv_bd (by decide) (Utf8Tabs_below hT HB1.out) (lv_sizes _ (by decide))
  rw [live_act] at key
  refine key.mono ?_
  rintro e w' ⟨⟨ks, rfl, hK⟩, hb⟩
  obtain ⟨A4, c4, A11, c11, A12, c12, rfl, -, -, -, -, -, g12⟩ := k34_open hK
  exact ⟨A4, c4, A11, c11, A12, c12, rfl, g12, hb⟩
 replace cA := Lib.hid cA
 clear hb1 HS HP HY HB HS1 cS hT
 have p0 : v1.cell? ⟨w.heap.size + 1, 0, none⟩ = some (.int .i64 8) := blk_cell HP1.out 0
 have p1 : v1.cell? ⟨w.heap.size + 1, 1, none⟩ = some (.int .i64 1) := blk_cell HP1.out 1
 have p2 : v1.cell? ⟨w.heap.size + 1, 2, none⟩ = some (.slice (some ⟨w.heap.size, 0, none⟩) 2 2) := blk_cell HP1.out 2
 have p3 : v1.cell? ⟨w.heap.size + 1, 3, none⟩ = some (.slice none 0 0) := blk_cell HP1.out 3
 go_wp2_with fail
 refine cA.out.mono ?_
 rintro e v2 ⟨A0, c0, A1, c1, A2, c2, rfl, hC, hb2⟩
 have hC2 : Kd.C Kd.bool (v2.alloc (.cells #[.int .i64 16, .int .i64 1, .int .i64 0, .int .i64 0, .slice A0 0 c0, .int .u32 0, .int .u32 0, .int .u32 0, .int .u64 0, .int .u64 0, .int .i64 0, .slice A1 0 c1, .slice A2 3 c2] 34)) A2 3 [true, false, true] := Kd.C_below hC (ExtQ.cellsBelow _ _)
 obtain ⟨ad, eA, hx0⟩ := Kd.at_bool hC2 0 (by omega) (by omega)
 obtain ⟨ad', eA', hx1⟩ := Kd.at_bool hC2 1 (by omega) (by omega)
 subst eA
 cases eA'
 rw [show rdOf false [true, false, true] 0 = true from rfl, show ((0 : Int)).toNat = 0 from rfl, Addr.add_zero'] at hx0
 rw [show rdOf false [true, false, true] 1 = false from rfl, show ((1 : Int)).toNat = 1 from rfl] at hx1
 replace hx1 : (v2.alloc (.cells #[.int .i64 16, .int .i64 1, .int .i64 0, .int .i64 0, .slice A0 0 c0, .int .u32 0, .int .u32 0, .int .u32 0, .int .u64 0, .int .u64 0, .int .i64 0, .slice A1 0 c1, .slice (some ad) 3 c2] 34)).cell? ⟨ad.block, ad.off + 1, none⟩ = some (.bool false) := hx1
 have HBZ := Zz.mk ((HB1.out.trans (hb2.mono HB1.out.size)).alloc (HB1.out.trans (hb2.mono HB1.out.size)).size (.cells #[.int .i64 16, .int .i64 1, .int .i64 0, .int .i64 0, .slice A0 0 c0, .int .u32 0, .int .u32 0, .int .u32 0, .int .u64 0, .int .u64 0, .int .i64 0, .slice A1 0 c1, .slice (some ad) 3 c2] 34))
 have has := ExtQ.act_store v2 #[.int .i64 0, .int .i64 0, .int .i64 0, .int .i64 0, .slice none 0 0, .int .u32 0, .int .u32 0, .int .u32 0, .int .u64 0, .int .u64 0, .int .i64 0, .slice none 0 0, .slice none 0 0] #[.int .i64 16, .int .i64 1, .int .i64 0, .int .i64 0, .slice A0 0 c0, .int .u32 0, .int .u32 0, .int .u32 0, .int .u64 0, .int .u64 0, .int .i64 0, .slice A1 0 c1, .slice (some ad) 3 c2] rfl rfl (by simp [Value.oneCell'])
 clear hb2 hC hC2 cA
 go_wp2_with fail
 go_ret
 exact ⟨rfl, HBZ.out⟩
end Go.Proofs.YtpdinahdcedmkaaGreatDoor.Ext
namespace Go.Proofs.YtpdinahdcedmkaaGreatDoor.ExtP
open Go.Proofs.YtpdinahdcedmkaaGreatDoor.Ext hiding blk_cell blk_set
open Go.RowKit YtpdinahdcedmkaaGreatDoorW.PrintWords YtpdinahdcedmkaaGreatDoorW.PrintLast YtpdinahdcedmkaaGreatDoorW.PrintMore Go.Proofs.YtpdinahdcedmkaaGreatDoor.Spec
/-! ### what the names are, by the kernel -/
def okName (k c : Int) : Bool :=
 plainS (nameS k c) && (kindOf (nameS k c) == k) && (((codesOf k).find? (isName k (nameS k c))) == some c)
theorem names_ok (k : Int) (h : k = 1 \/ k = 2 \/ k = 3) : ∀ c ∈ codesOf k, okName k c = true := by
 rcases h with rfl | rfl | rfl
 · decide +kernel
 · decide +kernel
 · decide +kernel
theorem found_code (k : Int) (h : k = 1 \/ k = 2 \/ k = 3) (name : ByteArray) (c : Int) (hf : (codesOf k).find? (isName k name) = some c) : codeS name = (k, c, 0) := by
 have hm := List.mem_of_find?_eq_some hf
 have hp := List.find?_some hf
 have hn : nameS k c = name := of_decide_eq_true hp
 have ok := names_ok k h c hm
 unfold okName at ok
 rw [hn] at ok
 simp only [Bool.and_eq_true, beq_iff_eq] at ok
 rw [codeS_eq name ok.1.1, ok.1.2]
 unfold ansS
 rw [hf]
theorem kindOf_cases (name : ByteArray) : kindOf name = 1 \/ kindOf name = 2 \/ kindOf name = 3 := by
 unfold kindOf
 split
 · exact .inl rfl
 · split
   · exact .inr (.inl rfl)
   · exact .inr (.inr rfl)
theorem none_code (name : ByteArray) (hn : ∀ k : Int, k = 1 \/ k = 2 \/ k = 3 -> (codesOf k).find? (isName k name) = none) : codeS name = (0, 0, 60) := by
 cases hp : plainS name with
 | false => unfold codeS; rw [if_pos hp]
 | true =>
   rw [codeS_eq name hp]
   unfold ansS
   rw [hn _ (kindOf_cases name)]
theorem codesOf_len (k : Int) : (codesOf k).length <= 89 := by
 unfold codesOf
 split
 · exact codesL_len _ _
 · simp
theorem r_Code (name : ByteArray) (w : World) (hs : name.size <= 140737488351232) :
 Calls Tryz.prog 91 #[.string name] w fun e w' => e = .returned (.tuple #[.int .i64 (codeS name).1, .int .u32 (codeS name).2.1, .int .i64 (codeS name).2.2]) /\ Below w.heap.size w w' := by
 obtain ⟨U, hU⟩ : ∃ U, codeS name = U := ⟨_, rfl⟩
 have HU := Lib.hid hU
 rw [hU]
 clear hU
 go_enter Tryz.func91, Tryz.ntmps91
 go_wp2
 go_loopw [5] (fun v5 wr => ∃ k : Int, 1 <= k /\ k <= 4 /\ v5 = .int .i64 k /\ Zz (∀ j : Int, 1 <= j -> j < k -> (codesOf j).find? (isName j name) = none) /\ Zz (Below w.heap.size w wr)) (fun v5 _ => (5 - intOf v5).toNat)
 case atStart => exact ⟨1, by omega, by omega, rfl, ⟨fun j h1 h2 => by omega⟩, ⟨Below.refl _ _⟩⟩
 case round =>
  obtain ⟨k, hk1, hk2, rfl, hN, hB⟩ := hrel
  by_cases hk : k = 4
  · subst hk
    have hU2 : U = (0, 0, 60) := by
     rw [<- HU.out]
     exact none_code name (fun j hj => hN.out j (by omega) (by omega))
    subst hU2
    clear hN HU
    go_wp2
    exact bodyPost_ret (v := .tuple #[.int .i64 0, .int .u32 0, .int .i64 60]) (by simp [results, Tryz.results91, go_sem]) rfl ⟨rfl, hB.out⟩
  · have hk3 : k <= 3 := by omega
    have hk4 : k = 1 \/ k = 2 \/ k = 3 := by omega
    have K1 := fun W => r_Codes k W
    rw [refCodes_eq k hk4] at K1
    have hlen := codesOf_len k
    have hbd := codesOf_bd k hk4
    have hFC := fun c hf => found_code k hk4 name c hf
    have hFN := find_none (isName k name) (codesOf k)
    have hFA := find_at (isName k name) (codesOf k)
    have hNN : ((codesOf k).find? (isName k name) = none) -> ∀ j : Int, 1 <= j -> j < k + 1 -> (codesOf j).find? (isName j name) = none := fun h j h1 h2 => by
     by_cases h3 : j < k
     · exact hN.out j h1 h3
     · obtain rfl : j = k := by omega
       exact h
    generalize hL : codesOf k = L at *
    have k1 := Lib.hid K1
    have HFC := Lib.hid hFC
    have HFN := Lib.hid hFN
    have HFA := Lib.hid hFA
    have HNN := Lib.hid hNN
    have HBD := Lib.hid hbd
    clear K1 hFC hFN hFA hNN hbd hN hL hk hk4
    go_wp2_with (first
     | (go_at_call 129
        refine (k1.out _).mono ?_
        rintro e v1 ⟨u, rfl, hr, hb⟩
        obtain ⟨A, c, rfl, hlc, hC⟩ := Kd.R_reads hr
        have HC := Zz.mk hC
        have HLC := Zz.mk hlc
        have HB1 := Zz.mk (hB.out.trans (hb.mono hB.out.size))
        clear hb hC hr hlc)
     | fail)
    go_loopw [16] (fun v16 wr => ∃ i : Nat, i <= L.length /\ v16 = .int .i64 (i : Int) /\ Zz (∀ x ∈ L.take i, isName k name x = false) /\ Zz (Below v1.heap.size v1 wr)) (fun v16 _ => L.length - (intOf v16).toNat)
    case atStart => exact ⟨0, by omega, rfl, ⟨by simp⟩, ⟨Below.refl _ _⟩⟩
    case round =>
     obtain ⟨i, hi, rfl, hE, hW⟩ := hrel
     by_cases hlt : i < L.length
     · have hti : (i : Int) < (L.length : Int) := by omega
       obtain ⟨ad1, ea1, hx1⟩ := Kd.at_int (Kd.C_below HC.out hW.out) (i : Int) (by omega) hti
       subst ea1
       rw [Int.toNat_natCast] at hx1
       have hn1 : rd L (i : Int) = L.getD i 0 := rfl
       rw [hn1] at hx1
       have hm : L.getD i 0 ∈ L := by rw [List.getD_eq_getElem?_getD, List.getElem?_eq_getElem hlt]; exact List.getElem_mem hlt
       have hrg := HBD.out _ hm
       have CN := fun W => r_Name k (L.getD i 0) W hrg.1 hrg.2
       have HWW := Zz.mk (HB1.out.trans (hW.out.mono HB1.out.size))
       have hfa := HFA.out i hlt
       have hS := take_snoc L i hlt
       obtain ⟨x, hgx⟩ : ∃ x, L.getD i 0 = x := ⟨_, rfl⟩
       rw [hgx] at CN hx1 hfa hS
       clear hn1 hm hrg hgx
       by_cases hp : nameS k x = name
       · have hU2 : U = (k, x, 0) := by
          rw [<- HU.out]
          exact HFC.out x (hfa (decide_eq_true hp) hE.out)
         subst hU2
         rw [hp] at CN
         have cn := Lib.hid CN
         clear CN hp hfa hS HU HFC HFN HFA HNN
         go_wp2_with (first
          | (go_at_call 76
             refine (cn.out _).mono ?_
             rintro e v2 ⟨rfl, hb⟩
             have hx2 := pw_cell_below hb hx1
             have HB2 := Zz.mk (HWW.out.trans (hb.mono HWW.out.size))
             clear hb)
          | fail)
         go_quiet (fail)
         go_wp2
         exact bodyPost_ret (v := .tuple #[.int .i64 k, .int .u32 x, .int .i64 0]) (by simp [results, Tryz.results91, go_sem]) rfl ⟨rfl, below_drewN' HB2.out nq⟩
       · have te := str_ne hp
         have HN2 := Zz.mk (show ∀ y ∈ L.take (i + 1), isName k name y = false by
          rw [hS]
          intro y hy
          rcases List.mem_append.1 hy with hy | hy
          · exact hE.out y hy
          · simp only [List.mem_cons, List.not_mem_nil, or_false] at hy
            subst hy
            exact decide_eq_false hp)
         clear hp hfa hS
         generalize nameS k x = nm at *
         have cn := Lib.hid CN
         clear CN
         go_wp2_with (first
          | (go_at_call 76
             refine (cn.out _).mono ?_
             rintro e v2 ⟨rfl, hb⟩
             have HW2 := Zz.mk (hW.out.trans (hb.mono hW.out.size))
             clear hb)
          | fail)
         go_roundw
         case rel => exact ⟨i + 1, by omega, by go_num, HN2, HW2⟩
         case measure => simp [intOf]; omega
     · obtain rfl : i = L.length := by omega
       have HE2 := Zz.mk (HNN.out (HFN.out (by have := hE.out; rwa [List.take_of_length_le (Nat.le_refl _)] at this)))
       have HW2 := Zz.mk (HB1.out.trans (hW.out.mono HB1.out.size))
       clear hE hW
       go_wp2
       go_roundw
       case rel => exact ⟨k + 1, by omega, by omega, by go_num, HE2, HW2⟩
       case measure => simp [intOf]; omega
end Go.Proofs.YtpdinahdcedmkaaGreatDoor.ExtP
-- Written by this session's program xprint.py; not trusted: Lean checks it.
namespace Go.Proofs.YtpdinahdcedmkaaGreatDoor.V
open Go.Proofs.YtpdinahdcedmkaaGreatDoor.Ext hiding blk_cell blk_set nums_append
open Go.RowKit YtpdinahdcedmkaaGreatDoorW.PrintWords YtpdinahdcedmkaaGreatDoorW.PrintLast YtpdinahdcedmkaaGreatDoorW.PrintMore
attribute [local go_sem] max2_int min2_int max_two min_two max_three min_three max_four min_four   -- for this text's walks alone
def errW : Option Int -> Value
 | none => .nilIface
 | some c => .iface 0 (.int .i64 c)
theorem errW_none : errW none = .nilIface := rfl
theorem errW_some (c : Int) : errW (some c) = .iface 0 (.int .i64 c) := rfl
theorem info9 : (Tryz.prog.info? 9).map (fun i => (i.zero, i.size, i.bytes)) = some (some (.string ⟨#[]⟩), 1, 16) := by kernel_rfl
-- the values' own types
end Go.Proofs.YtpdinahdcedmkaaGreatDoor.V
-- Written by this session's program xprint.py; not trusted: Lean checks it.
namespace Go.Proofs.YtpdinahdcedmkaaGreatDoor.V
open Go.Proofs.YtpdinahdcedmkaaGreatDoor.Ext hiding blk_cell blk_set nums_append
open Go.RowKit YtpdinahdcedmkaaGreatDoorW.PrintWords YtpdinahdcedmkaaGreatDoorW.PrintLast YtpdinahdcedmkaaGreatDoorW.PrintMore
attribute [local go_sem] max2_int min2_int max_two min_two max_three min_three max_four min_four   -- for this text's walks alone
/-! ### liveryref01_digit: function 128 -/
def liveryref01_digit.l0 : Nat -> Int -> Int -> Option (Int)
 | 0, _, _ => none
 | k + 1, x0, x4 => if x4 < 16 then (if 0 <= x4 then (if (wrap32 (bt (⟨#[48, 49, 50, 51, 52, 53, 54, 55, 56, 57, 97, 98, 99, 100, 101, 102]⟩ : ByteArray) x4)) = x0 then (some x4) else (liveryref01_digit.l0 k x0 (wrap64 (x4 + 1)))) else (none)) else (some (-1))
def liveryref01_digit.f (k : Nat) (a0 : Int) : Option (Int) := liveryref01_digit.l0 k a0 0
theorem liveryref01_digit.calls (k : Nat) (a0 : Int) (r : Int) (w : World) (h : liveryref01_digit.f k a0 = some r) :
 Calls Tryz.prog 128 #[.int .i32 a0] w fun e w' => e = .returned (.int .i64 r) /\ Drawn0 w w' := by
 have H : (liveryref01_digit.l0 k a0 0) = some r := h
 clear h
 have H' := Zz.mk H
 clear H
 go_enter Tryz.func128, Tryz.ntmps128
 go_wp2
 go_loopg [4] k (fun kq v4 w' => ∃ (x4_1 : Int), v4 = .int .i64 x4_1 /\ Zz (liveryref01_digit.l0 kq a0 x4_1 = some r) /\ Zz (kq <= k) /\ Drawn0 w w')
 case atStart => exact ⟨(0), (by first | rfl | (simp; done) | (simp [*]; done)), H', ⟨Nat.le_refl _⟩, by repeat (first | exact Drawn0.refl _ | apply Drawn0.step)⟩
 case round =>
  clear H'
  try clear c1
  obtain ⟨x4_1, rfl, HA, HK1, ⟨m1, rfl⟩⟩ := hrel
  cases gk with
  | zero => exact absurd HA.out (by simp [liveryref01_digit.l0])
  | succ k1 =>
    have H := HA.out
    clear HA
    simp only [liveryref01_digit.l0] at H
    by_cases c2 : x4_1 < 16
    · rw [if_pos c2] at H
      have c2b0 : decide (x4_1 < 16) = true := decide_eq_true c2
      clear c2
      by_cases c3 : 0 <= x4_1
      · rw [if_pos c3] at H
        have c3b0 : decide (0 <= x4_1) = true := decide_eq_true c3
        clear c3
        by_cases c5 : (wrap32 (bt (⟨#[48, 49, 50, 51, 52, 53, 54, 55, 56, 57, 97, 98, 99, 100, 101, 102]⟩ : ByteArray) x4_1)) = a0
        · rw [if_pos c5] at H
          have c5b0 : ((wrap32 (bt (⟨#[48, 49, 50, 51, 52, 53, 54, 55, 56, 57, 97, 98, 99, 100, 101, 102]⟩ : ByteArray) x4_1)) == a0) = true := beq_iff_eq.mpr c5
          have c5b1 : ((wrap32 (bt (⟨#[48, 49, 50, 51, 52, 53, 54, 55, 56, 57, 97, 98, 99, 100, 101, 102]⟩ : ByteArray) x4_1)) != a0) = false := bne_eq_false_iff_eq.mpr c5
          clear c5
          obtain rfl := Option.some.inj H
          have p4 : 0 <= (x4_1 : Int) := of_decide_eq_true (by first | (with_reducible assumption) | assumption)
          have q4 : x4_1 < (16 : Int) := of_decide_eq_true (by first | (with_reducible assumption) | assumption)
          have hx4 := bt_at (⟨#[48, 49, 50, 51, 52, 53, 54, 55, 56, 57, 97, 98, 99, 100, 101, 102]⟩ : ByteArray) x4_1
          replace p4 := eq_true p4
          replace q4 := eq_true q4
          go_wp2
          go_ret
          exact ⟨by first | rfl | (simp; done) | (simp [*]; done), by repeat (first | exact Drawn0.refl _ | apply Drawn0.step)⟩
        · rw [if_neg c5] at H
          have c5b0 : ((wrap32 (bt (⟨#[48, 49, 50, 51, 52, 53, 54, 55, 56, 57, 97, 98, 99, 100, 101, 102]⟩ : ByteArray) x4_1)) == a0) = false := beq_eq_false_iff_ne.mpr c5
          have c5b1 : ((wrap32 (bt (⟨#[48, 49, 50, 51, 52, 53, 54, 55, 56, 57, 97, 98, 99, 100, 101, 102]⟩ : ByteArray) x4_1)) != a0) = true := bne_iff_ne.mpr c5
          have H' := Zz.mk H
          clear H
          have p4 : 0 <= (x4_1 : Int) := of_decide_eq_true (by first | (with_reducible assumption) | assumption)
          have q4 : x4_1 < (16 : Int) := of_decide_eq_true (by first | (with_reducible assumption) | assumption)
          have hx4 := bt_at (⟨#[48, 49, 50, 51, 52, 53, 54, 55, 56, 57, 97, 98, 99, 100, 101, 102]⟩ : ByteArray) x4_1
          replace p4 := eq_true p4
          replace q4 := eq_true q4
          go_wp2
          go_roundg k1
          case measure => have := HK1.out; omega
          case rel => exact ⟨(wrap64 (x4_1 + 1)), (by first | rfl | (simp; done) | (simp [*]; done)), H', ⟨by have := HK1.out; omega⟩, by repeat (first | exact Drawn0.refl _ | apply Drawn0.step)⟩
      · rw [if_neg c3] at H
        exact absurd H (by simp)
    · rw [if_neg c2] at H
      have c2b0 : decide (x4_1 < 16) = false := decide_eq_false c2
      clear c2
      obtain rfl := Option.some.inj H
      go_wp2
      go_ret
      exact ⟨by first | rfl | (simp; done) | (simp [*]; done), by repeat (first | exact Drawn0.refl _ | apply Drawn0.step)⟩
/-! ### liveryref01_Decimal: function 115 -/
def liveryref01_Decimal.l0 : Nat -> Int -> ByteArray -> Option (ByteArray)
 | 0, _, _ => none
 | k + 1, x0, x3 => if x0 ≥ 10 then (if 0 <= (Int.tmod (IntKind.u64.wrap (Int.tdiv x0 10)) 10) then (if (Int.tmod (IntKind.u64.wrap (Int.tdiv x0 10)) 10) <= (IntKind.u64.wrap ((Int.tmod (IntKind.u64.wrap (Int.tdiv x0 10)) 10) + 1)) then (if (IntKind.u64.wrap ((Int.tmod (IntKind.u64.wrap (Int.tdiv x0 10)) 10) + 1)) <= 16 then (if ((⟨#[48, 49, 50, 51, 52, 53, 54, 55, 56, 57, 97, 98, 99, 100, 101, 102]⟩ : ByteArray).extract ((Int.tmod (IntKind.u64.wrap (Int.tdiv x0 10)) 10) : Int).toNat ((IntKind.u64.wrap ((Int.tmod (IntKind.u64.wrap (Int.tdiv x0 10)) 10) + 1)) : Int).toNat).size + x3.size <= 9223372036854775807 then (liveryref01_Decimal.l0 k (IntKind.u64.wrap (Int.tdiv x0 10)) (((⟨#[48, 49, 50, 51, 52, 53, 54, 55, 56, 57, 97, 98, 99, 100, 101, 102]⟩ : ByteArray).extract ((Int.tmod (IntKind.u64.wrap (Int.tdiv x0 10)) 10) : Int).toNat ((IntKind.u64.wrap ((Int.tmod (IntKind.u64.wrap (Int.tdiv x0 10)) 10) + 1)) : Int).toNat) ++ x3)) else (none)) else (none)) else (none)) else (none)) else (some x3)
def liveryref01_Decimal.f (k : Nat) (a0 : Int) : Option (ByteArray) := if 0 <= (Int.tmod a0 10) then (if (Int.tmod a0 10) <= (IntKind.u64.wrap ((Int.tmod a0 10) + 1)) then (if (IntKind.u64.wrap ((Int.tmod a0 10) + 1)) <= 16 then (liveryref01_Decimal.l0 k a0 ((⟨#[48, 49, 50, 51, 52, 53, 54, 55, 56, 57, 97, 98, 99, 100, 101, 102]⟩ : ByteArray).extract ((Int.tmod a0 10) : Int).toNat ((IntKind.u64.wrap ((Int.tmod a0 10) + 1)) : Int).toNat)) else (none)) else (none)) else (none)
theorem liveryref01_Decimal.calls (k : Nat) (a0 : Int) (r : ByteArray) (w : World) (h : liveryref01_Decimal.f k a0 = some r) :
 Calls Tryz.prog 115 #[.int .u64 a0] w fun e w' => e = .returned (.string r) /\ Drawn0 w w' := by
 have H : (if 0 <= (Int.tmod a0 10) then (if (Int.tmod a0 10) <= (IntKind.u64.wrap ((Int.tmod a0 10) + 1)) then (if (IntKind.u64.wrap ((Int.tmod a0 10) + 1)) <= 16 then (liveryref01_Decimal.l0 k a0 ((⟨#[48, 49, 50, 51, 52, 53, 54, 55, 56, 57, 97, 98, 99, 100, 101, 102]⟩ : ByteArray).extract ((Int.tmod a0 10) : Int).toNat ((IntKind.u64.wrap ((Int.tmod a0 10) + 1)) : Int).toNat)) else (none)) else (none)) else (none)) = some r := h
 clear h
 obtain ⟨ji2, hji2⟩ : ∃ j_ : Int, (Int.tmod a0 10) = j_ := ⟨_, rfl⟩
 replace H : (if 0 <= (ji2) then (if (ji2) <= (IntKind.u64.wrap ((ji2) + 1)) then (if (IntKind.u64.wrap ((ji2) + 1)) <= 16 then (liveryref01_Decimal.l0 k a0 ((⟨#[48, 49, 50, 51, 52, 53, 54, 55, 56, 57, 97, 98, 99, 100, 101, 102]⟩ : ByteArray).extract ((ji2) : Int).toNat ((IntKind.u64.wrap ((ji2) + 1)) : Int).toNat)) else (none)) else (none)) else (none)) = some r := by first | (rw [hji2] at H; exact H) | (simp only [hji2] at H ⊢; exact H)
 by_cases c3 : 0 <= (ji2)
 · rw [if_pos c3] at H
   have c3b0 := eq_true c3
   have c3b1 : decide (0 <= (ji2)) = true := decide_eq_true c3
   clear c3
   by_cases c4 : (ji2) <= (IntKind.u64.wrap ((ji2) + 1))
   · rw [if_pos c4] at H
     have c4b0 := eq_true c4
     have c4b1 : decide ((ji2) <= (IntKind.u64.wrap ((ji2) + 1))) = true := decide_eq_true c4
     by_cases c5 : (IntKind.u64.wrap ((ji2) + 1)) <= 16
     · rw [if_pos c5] at H
       have c5b0 := eq_true c5
       have c5b1 : decide ((IntKind.u64.wrap ((ji2) + 1)) <= 16) = true := decide_eq_true c5
       have H' := Zz.mk H
       clear H
       go_enter Tryz.func115, Tryz.ntmps115
       go_wp2
       go_loopg [0, 3] k (fun kq v0 v3 w' => ∃ (x0_1 : Int) (x3_1 : ByteArray), v0 = .int .u64 x0_1 /\ v3 = .string x3_1 /\ Zz (liveryref01_Decimal.l0 kq x0_1 x3_1 = some r) /\ Zz (kq <= k) /\ Drawn0 w w')
       case atStart => exact ⟨(a0), ((⟨#[48, 49, 50, 51, 52, 53, 54, 55, 56, 57, 97, 98, 99, 100, 101, 102]⟩ : ByteArray).extract ((ji2) : Int).toNat ((IntKind.u64.wrap ((ji2) + 1)) : Int).toNat), (by first | rfl | (simp; done) | (simp [*]; done)), (by first | rfl | (simp; done) | (simp only [<- hji2] <;> (first | rfl | simp)) | (simp [*]; done)), H', ⟨Nat.le_refl _⟩, by repeat (first | exact Drawn0.refl _ | apply Drawn0.step)⟩
       case round =>
        clear H'
        try clear c1
        try clear p2
        try clear c3
        try clear c3b0
        try clear c3b1
        try clear c4
        try clear c4b0
        try clear c4b1
        try clear c5
        try clear c5b0
        try clear c5b1
        obtain ⟨x0_1, x3_1, rfl, rfl, HA, HK1, ⟨m1, rfl⟩⟩ := hrel
        cases gk with
        | zero => exact absurd HA.out (by simp [liveryref01_Decimal.l0])
        | succ k1 =>
          have H := HA.out
          clear HA
          simp only [liveryref01_Decimal.l0] at H
          by_cases c6 : x0_1 ≥ 10
          · rw [if_pos c6] at H
            have c6b0 : decide (10 <= x0_1) = true := decide_eq_true c6
            clear c6
            obtain ⟨ji7, hji7⟩ : ∃ j_ : Int, (Int.tmod (IntKind.u64.wrap (Int.tdiv x0_1 10)) 10) = j_ := ⟨_, rfl⟩
            replace H : (if 0 <= (ji7) then (if (ji7) <= (IntKind.u64.wrap ((ji7) + 1)) then (if (IntKind.u64.wrap ((ji7) + 1)) <= 16 then (if ((⟨#[48, 49, 50, 51, 52, 53, 54, 55, 56, 57, 97, 98, 99, 100, 101, 102]⟩ : ByteArray).extract ((ji7) : Int).toNat ((IntKind.u64.wrap ((ji7) + 1)) : Int).toNat).size + x3_1.size <= 9223372036854775807 then (liveryref01_Decimal.l0 k1 (IntKind.u64.wrap (Int.tdiv x0_1 10)) (((⟨#[48, 49, 50, 51, 52, 53, 54, 55, 56, 57, 97, 98, 99, 100, 101, 102]⟩ : ByteArray).extract ((ji7) : Int).toNat ((IntKind.u64.wrap ((ji7) + 1)) : Int).toNat) ++ x3_1)) else (none)) else (none)) else (none)) else (none)) = some r := by first | (rw [hji7] at H; exact H) | (simp only [hji7] at H ⊢; exact H)
            by_cases c8 : 0 <= (ji7)
            · rw [if_pos c8] at H
              have c8b0 := eq_true c8
              have c8b1 : decide (0 <= (ji7)) = true := decide_eq_true c8
              clear c8
              by_cases c9 : (ji7) <= (IntKind.u64.wrap ((ji7) + 1))
              · rw [if_pos c9] at H
                have c9b0 := eq_true c9
                have c9b1 : decide ((ji7) <= (IntKind.u64.wrap ((ji7) + 1))) = true := decide_eq_true c9
                by_cases c10 : (IntKind.u64.wrap ((ji7) + 1)) <= 16
                · rw [if_pos c10] at H
                  have c10b0 := eq_true c10
                  have c10b1 : decide ((IntKind.u64.wrap ((ji7) + 1)) <= 16) = true := decide_eq_true c10
                  by_cases c11 : ((⟨#[48, 49, 50, 51, 52, 53, 54, 55, 56, 57, 97, 98, 99, 100, 101, 102]⟩ : ByteArray).extract ((ji7) : Int).toNat ((IntKind.u64.wrap ((ji7) + 1)) : Int).toNat).size + x3_1.size <= 9223372036854775807
                  · rw [if_pos c11] at H
                    have c11b0 := eq_true c11
                    have c11b1 : decide (((⟨#[48, 49, 50, 51, 52, 53, 54, 55, 56, 57, 97, 98, 99, 100, 101, 102]⟩ : ByteArray).extract ((ji7) : Int).toNat ((IntKind.u64.wrap ((ji7) + 1)) : Int).toNat).size + x3_1.size <= 9223372036854775807) = true := decide_eq_true c11
                    try have c11b2 : (9223372036854775807 < ((⟨#[48, 49, 50, 51, 52, 53, 54, 55, 56, 57, 97, 98, 99, 100, 101, 102]⟩ : ByteArray).extract ((ji7) : Int).toNat ((IntKind.u64.wrap ((ji7) + 1)) : Int).toNat).size + x3_1.size) = False := eq_false (Nat.not_lt.2 c11)
                    have H' := Zz.mk H
                    clear H
                    go_wp2
                    go_roundg k1
                    case measure => have := HK1.out; omega
                    case rel => exact ⟨(IntKind.u64.wrap (Int.tdiv x0_1 10)), (((⟨#[48, 49, 50, 51, 52, 53, 54, 55, 56, 57, 97, 98, 99, 100, 101, 102]⟩ : ByteArray).extract ((ji7) : Int).toNat ((IntKind.u64.wrap ((ji7) + 1)) : Int).toNat) ++ x3_1), (by first | rfl | (simp; done) | (simp [*]; done)), (by first | rfl | (simp; done) | (simp only [<- hji7] <;> (first | rfl | simp)) | (simp [*]; done)), H', ⟨by have := HK1.out; omega⟩, by repeat (first | exact Drawn0.refl _ | apply Drawn0.step)⟩
                  · rw [if_neg c11] at H
                    exact absurd H (by simp)
                · rw [if_neg c10] at H
                  exact absurd H (by simp)
              · rw [if_neg c9] at H
                exact absurd H (by simp)
            · rw [if_neg c8] at H
              exact absurd H (by simp)
          · rw [if_neg c6] at H
            have c6b0 : decide (10 <= x0_1) = false := decide_eq_false c6
            clear c6
            obtain rfl := Option.some.inj H
            go_wp2
            go_ret
            exact ⟨by first | rfl | (simp; done) | (simp only [<- hji2] <;> (first | rfl | simp)) | (simp [*]; done), by repeat (first | exact Drawn0.refl _ | apply Drawn0.step)⟩
     · rw [if_neg c5] at H
       exact absurd H (by simp)
   · rw [if_neg c4] at H
     exact absurd H (by simp)
 · rw [if_neg c3] at H
   exact absurd H (by simp)
/-! ### liveryref27_closed: function 85 -/
def liveryref27_closed.l0 : Nat -> ByteArray -> Int -> Option (Int)
 | 0, _, _ => none
 | k + 1, x0, x5 => if x5 < (x0.size : Int) then (if 0 <= x5 then (if (bt x0 x5) = 92 then (liveryref27_closed.l0 k x0 (wrap64 ((wrap64 (x5 + 1)) + 1))) else (if (bt x0 x5) = 34 then (some (wrap64 (x5 + 1))) else (liveryref27_closed.l0 k x0 (wrap64 (x5 + 1))))) else (none)) else (some (-1))
def liveryref27_closed.f (k : Nat) (a0 : ByteArray) (a1 : Int) : Option (Int) := liveryref27_closed.l0 k a0 (wrap64 (a1 + 1))
theorem liveryref27_closed.calls (k : Nat) (a0 : ByteArray) (a1 : Int) (r : Int) (w : World) (h : liveryref27_closed.f k a0 a1 = some r) :
 Calls Tryz.prog 85 #[.string a0, .int .i64 a1] w fun e w' => e = .returned (.int .i64 r) /\ Drawn0 w w' := by
 have H : (liveryref27_closed.l0 k a0 (wrap64 (a1 + 1))) = some r := h
 clear h
 have H' := Zz.mk H
 clear H
 go_enter Tryz.func85, Tryz.ntmps85
 go_wp2
 go_loopg [5] k (fun kq v5 w' => ∃ (x5_1 : Int), v5 = .int .i64 x5_1 /\ Zz (liveryref27_closed.l0 kq a0 x5_1 = some r) /\ Zz (kq <= k) /\ Drawn0 w w')
 case atStart => exact ⟨(wrap64 (a1 + 1)), (by first | rfl | (simp; done) | (simp [*]; done)), H', ⟨Nat.le_refl _⟩, by repeat (first | exact Drawn0.refl _ | apply Drawn0.step)⟩
 case round =>
  clear H'
  try clear p2
  obtain ⟨x5_1, rfl, HA, HK1, ⟨m1, rfl⟩⟩ := hrel
  cases gk with
  | zero => exact absurd HA.out (by simp [liveryref27_closed.l0])
  | succ k1 =>
    have H := HA.out
    clear HA
    simp only [liveryref27_closed.l0] at H
    by_cases c3 : x5_1 < (a0.size : Int)
    · rw [if_pos c3] at H
      have c3b0 : decide (x5_1 < (a0.size : Int)) = true := decide_eq_true c3
      clear c3
      by_cases c4 : 0 <= x5_1
      · rw [if_pos c4] at H
        have c4b0 : decide (0 <= x5_1) = true := decide_eq_true c4
        clear c4
        by_cases c6 : (bt a0 x5_1) = 92
        · rw [if_pos c6] at H
          have c6b0 : ((bt a0 x5_1) == 92) = true := beq_iff_eq.mpr c6
          have c6b1 : ((bt a0 x5_1) != 92) = false := bne_eq_false_iff_eq.mpr c6
          clear c6
          have H' := Zz.mk H
          clear H
          have p5 : 0 <= (x5_1 : Int) := of_decide_eq_true (by first | (with_reducible assumption) | assumption)
          have q5 : x5_1 < (a0.size : Int) := of_decide_eq_true (by first | (with_reducible assumption) | assumption)
          have hx5 := bt_at a0 x5_1
          replace p5 := eq_true p5
          replace q5 := eq_true q5
          go_wp2
          go_roundg k1
          case measure => have := HK1.out; omega
          case rel => exact ⟨(wrap64 ((wrap64 (x5_1 + 1)) + 1)), (by first | rfl | (simp; done) | (simp [*]; done)), H', ⟨by have := HK1.out; omega⟩, by repeat (first | exact Drawn0.refl _ | apply Drawn0.step)⟩
        · rw [if_neg c6] at H
          have c6b0 : ((bt a0 x5_1) == 92) = false := beq_eq_false_iff_ne.mpr c6
          have c6b1 : ((bt a0 x5_1) != 92) = true := bne_iff_ne.mpr c6
          by_cases c8 : (bt a0 x5_1) = 34
          · rw [if_pos c8] at H
            have c8b0 : ((bt a0 x5_1) == 34) = true := beq_iff_eq.mpr c8
            have c8b1 : ((bt a0 x5_1) != 34) = false := bne_eq_false_iff_eq.mpr c8
            clear c8
            obtain rfl := Option.some.inj H
            have p5 : 0 <= (x5_1 : Int) := of_decide_eq_true (by first | (with_reducible assumption) | assumption)
            have q5 : x5_1 < (a0.size : Int) := of_decide_eq_true (by first | (with_reducible assumption) | assumption)
            have hx5 := bt_at a0 x5_1
            replace p5 := eq_true p5
            replace q5 := eq_true q5
            have p7 : 0 <= (x5_1 : Int) := of_decide_eq_true (by first | (with_reducible assumption) | assumption)
            have q7 : x5_1 < (a0.size : Int) := of_decide_eq_true (by first | (with_reducible assumption) | assumption)
            have hx7 := bt_at a0 x5_1
            replace p7 := eq_true p7
            replace q7 := eq_true q7
            go_wp2
            go_ret
            exact ⟨by first | rfl | (simp; done) | (simp [*]; done), by repeat (first | exact Drawn0.refl _ | apply Drawn0.step)⟩
          · rw [if_neg c8] at H
            have c8b0 : ((bt a0 x5_1) == 34) = false := beq_eq_false_iff_ne.mpr c8
            have c8b1 : ((bt a0 x5_1) != 34) = true := bne_iff_ne.mpr c8
            have H' := Zz.mk H
            clear H
            have p5 : 0 <= (x5_1 : Int) := of_decide_eq_true (by first | (with_reducible assumption) | assumption)
            have q5 : x5_1 < (a0.size : Int) := of_decide_eq_true (by first | (with_reducible assumption) | assumption)
            have hx5 := bt_at a0 x5_1
            replace p5 := eq_true p5
            replace q5 := eq_true q5
            have p7 : 0 <= (x5_1 : Int) := of_decide_eq_true (by first | (with_reducible assumption) | assumption)
            have q7 : x5_1 < (a0.size : Int) := of_decide_eq_true (by first | (with_reducible assumption) | assumption)
            have hx7 := bt_at a0 x5_1
            replace p7 := eq_true p7
            replace q7 := eq_true q7
            go_wp2
            go_roundg k1
            case measure => have := HK1.out; omega
            case rel => exact ⟨(wrap64 (x5_1 + 1)), (by first | rfl | (simp; done) | (simp [*]; done)), H', ⟨by have := HK1.out; omega⟩, by repeat (first | exact Drawn0.refl _ | apply Drawn0.step)⟩
      · rw [if_neg c4] at H
        exact absurd H (by simp)
    · rw [if_neg c3] at H
      have c3b0 : decide (x5_1 < (a0.size : Int)) = false := decide_eq_false c3
      clear c3
      obtain rfl := Option.some.inj H
      go_wp2
      go_ret
      exact ⟨by first | rfl | (simp; done) | (simp [*]; done), by repeat (first | exact Drawn0.refl _ | apply Drawn0.step)⟩
end Go.Proofs.YtpdinahdcedmkaaGreatDoor.V
-- Written by this session's program xprint.py; not trusted: Lean checks it.
namespace Go.Proofs.YtpdinahdcedmkaaGreatDoor.V
open Go.Proofs.YtpdinahdcedmkaaGreatDoor.Ext hiding blk_cell blk_set nums_append
open Go.RowKit YtpdinahdcedmkaaGreatDoorW.PrintWords YtpdinahdcedmkaaGreatDoorW.PrintLast YtpdinahdcedmkaaGreatDoorW.PrintMore
attribute [local go_sem] max2_int min2_int max_two min_two max_three min_three max_four min_four   -- for this text's walks alone
/-! ### liveryref27_Words: function 39 -/
mutual
def liveryref27_Words.l0 : Nat -> ByteArray -> List ByteArray -> Int -> Option (List ByteArray × Int)
 | 0, _, _, _ => none
 | k + 1, x0, x4, x5 => if x5 < (x0.size : Int) then (if 0 <= x5 then (liveryref27_Words.j1 k x0 x4 x5 x5 ((bt x0 x5) == 34)) else (none)) else (liveryref27_Words.j1 k x0 x4 x5 x5 false)
def liveryref27_Words.j1 : Nat -> ByteArray -> List ByteArray -> Int -> Int -> Bool -> Option (List ByteArray × Int)
 | 0, _, _, _, _, _ => none
 | k + 1, x0, x4, x5, x6, x18 => if x18 = true then ((liveryref27_closed.f k x0 x5).bind fun t104 => (if t104 < 0 then (some (([] : List ByteArray), 270)) else (liveryref27_Words.j3 k x0 x4 x5 t104))) else (liveryref27_Words.l1 k x0 x4 x5 x6)
def liveryref27_Words.j3 : Nat -> ByteArray -> List ByteArray -> Int -> Int -> Option (List ByteArray × Int)
 | 0, _, _, _, _ => none
 | k + 1, x0, x4, x5, x6 => if x6 = x5 then (liveryref27_Words.j4 k x0 x4 x5 x6 true) else (if x6 < (x0.size : Int) then (if 0 <= x6 then (liveryref27_Words.j4 k x0 x4 x5 x6 ((bt x0 x6) != 32)) else (none)) else (liveryref27_Words.j4 k x0 x4 x5 x6 false))
def liveryref27_Words.j4 : Nat -> ByteArray -> List ByteArray -> Int -> Int -> Bool -> Option (List ByteArray × Int)
 | 0, _, _, _, _, _ => none
 | k + 1, x0, x4, x5, x6, x56 => if x56 = true then (some (([] : List ByteArray), 270)) else (if 0 <= x5 then (if x5 <= x6 then (if x6 <= (x0.size : Int) then (if x4.length < 8796093022208 then ((some (x4 ++ [x0.extract (x5 : Int).toNat (x6 : Int).toNat] : List ByteArray)).bind fun y105 => (if x6 = (x0.size : Int) then (some (y105, 0)) else (liveryref27_Words.l0 k x0 y105 (wrap64 (x6 + 1))))) else (none)) else (none)) else (none)) else (none))
def liveryref27_Words.l1 : Nat -> ByteArray -> List ByteArray -> Int -> Int -> Option (List ByteArray × Int)
 | 0, _, _, _, _ => none
 | k + 1, x0, x4, x5, x6 => if x6 < (x0.size : Int) then (if 0 <= x6 then (if (bt x0 x6) = 32 then (liveryref27_Words.j3 k x0 x4 x5 x6) else (if (bt x0 x6) = 34 then (liveryref27_Words.j3 k x0 x4 x5 x6) else (liveryref27_Words.l1 k x0 x4 x5 (wrap64 (x6 + 1))))) else (none)) else (liveryref27_Words.j3 k x0 x4 x5 x6)
end
def liveryref27_Words.f (k : Nat) (a0 : ByteArray) : Option (List ByteArray × Int) := liveryref27_Words.l0 k a0 (([] : List ByteArray)) 0
theorem liveryref27_Words.calls (k : Nat) (a0 : ByteArray) (r1 : List ByteArray) (r2 : Int) (w : World) (h : liveryref27_Words.f k a0 = some (r1, r2)) :
 Calls Tryz.prog 39 #[.string a0] w fun e w' => ∃ v0_ : Value, e = .returned (.tuple #[v0_, .int .i64 r2]) /\ Kd.R Kd.string 9 w' w.heap.size (fun _ => True) v0_ r1 /\ Below w.heap.size w w' := by
 have HB := Zz.mk (Below.refl w.heap.size w)
 have H : (liveryref27_Words.l0 k a0 (([] : List ByteArray)) 0) = some (r1, r2) := h
 clear h
 obtain ⟨y101, hy101⟩ : ∃ y_ : List ByteArray, y_ = (([] : List ByteArray)) := ⟨_, rfl⟩
 replace H : (liveryref27_Words.l0 k a0 y101 0) = some (r1, r2) := by first | (rw [hy101]; with_reducible exact H) | (have H2_ := (Option.bind_some _ _).symm.trans H; rw [hy101]; with_reducible exact H2_) | (have H2_ := (Option.bind_some _ _).symm.trans H; with_reducible exact H2_) | with_reducible exact H | (rw [hy101]; exact H) | exact H
 have Ny101 := Zz.mk hy101
 clear hy101
 have H' := Zz.mk H
 clear H
 go_enter Tryz.func39, Tryz.ntmps39
 go_wp2_with (first | ((with_reducible refine gate_dst (N := 7) rfl ?_); (try (refine gate_guard (by rfl) ?_; dsimp only)); refine Kd.R_lit Kd.string _ 9 ?hg (N := 7) ?hd (xs := ([] : List ByteArray)) (inner := []) (ok := fun _ => True) (okp := fun _ => True) ?hr ?hp (fun _ hk => hk) trivial (Below.refl _ _) (Nat.le_refl _) (by simp) ?_; (case hd => rfl); (case hg => rfl); (case hr => first | (go_simp; done) | (go_simp; rfl)); (case hp => exact (Reps.none _ _)); intro v102 w2 ho3 hb hg_ hnew_; clear hg_ hnew_; (first | rw [<- Ny101.out] at ho3 | (simp only [Int.reduceToNat] at ho3; rw [<- Ny101.out] at ho3)); have n0_ := Zz.mk (Kd.R_lower ho3 (below_size (by repeat (first | (with_reducible first | exact HB.out | apply below_alloc | apply pw_below_drewN | apply below_drew1) | exact HB.out)))); have n1_ := Zz.mk (below_step (by repeat (first | (with_reducible first | exact HB.out | apply below_alloc | apply pw_below_drewN | apply below_drew1) | exact HB.out)) hb); clear HB; have HO103 := n0_; have HB := n1_; clear n0_ n1_; clear hb ho3))
 go_loopg [4, 5] k (fun kq v4 v5 w' => ∃ (x4_1 : List ByteArray) (x5_1 : Int), v5 = .int .i64 x5_1 /\ Zz (liveryref27_Words.l0 kq a0 x4_1 x5_1 = some (r1, r2)) /\ Zz (kq <= k) /\ Zz (Kd.R Kd.string 9 w' w.heap.size (fun _ => True) v4 x4_1) /\ Zz (Below w.heap.size w w'))
 case atStart => exact ⟨(y101), (0), (by first | rfl | (simp; done) | (simp [*]; done)), H', ⟨Nat.le_refl _⟩, ⟨by (with_reducible repeat (first | apply Kd.R_alloc | apply Kd.R_drewN | apply Kd.R_drew)); exact HO103.out⟩, ⟨by repeat (first | (with_reducible first | exact HB.out | apply below_alloc | apply pw_below_drewN | apply below_drew1) | exact HB.out)⟩⟩
 case round =>
  clear H'
  try clear p2
  try clear c3
  obtain ⟨x4_1, x5_1, rfl, HA, HK1, HO_4, HB⟩ := hrel
  cases gk with
  | zero => exact absurd HA.out (by simp [liveryref27_Words.l0])
  | succ k1 =>
    have H := HA.out
    clear HA
    simp only [liveryref27_Words.l0] at H
    have HC4 := Zz.mk H
    clear H
    go_upto_region 4 with (fail)
    go_cut [18] (fun v18 wc => ∃ (kq : Nat) (x18_3 : Bool), v18 = .bool x18_3 /\ Zz (liveryref27_Words.j1 kq a0 x4_1 x5_1 x5_1 x18_3 = some (r1, r2)) /\ Zz (kq <= k1) /\ Zz (Kd.R Kd.string 9 wc w.heap.size (fun _ => True) u4 x4_1) /\ Zz (Below w.heap.size w wc))
    case first =>
     have H := HC4.out
     clear HC4
     by_cases c5 : x5_1 < (a0.size : Int)
     · rw [if_pos c5] at H
       have c5b0 : decide (x5_1 < (a0.size : Int)) = true := decide_eq_true c5
       clear c5
       (first | rw [c5b0] | (simp only [i64_w, i32_w]; rw [c5b0]) | skip)
       by_cases c6 : 0 <= x5_1
       · rw [if_pos c6] at H
         have c6b0 : decide (0 <= x5_1) = true := decide_eq_true c6
         clear c6
         have H' := Zz.mk H
         clear H
         have p7 : 0 <= (x5_1 : Int) := of_decide_eq_true (by first | (with_reducible assumption) | assumption)
         have q7 : x5_1 < (a0.size : Int) := of_decide_eq_true (by first | (with_reducible assumption) | assumption)
         have hx7 := bt_at a0 x5_1
         replace p7 := eq_true p7
         replace q7 := eq_true q7
         go_wp2
         go_meet
         case rel => exact ⟨_, (((bt a0 x5_1) == 34)), (by first | rfl | (simp; done) | (simp [*]; done)), H', ⟨by have := HK1.out; first | omega | exact Nat.le_refl _⟩, ⟨by (with_reducible repeat (first | apply Kd.R_alloc | apply Kd.R_drewN | apply Kd.R_drew)); exact HO_4.out⟩, ⟨by repeat (first | (with_reducible first | exact HB.out | apply below_alloc | apply pw_below_drewN | apply below_drew1) | exact HB.out)⟩⟩
       · rw [if_neg c6] at H
         exact absurd H (by simp)
     · rw [if_neg c5] at H
       have c5b0 : decide (x5_1 < (a0.size : Int)) = false := decide_eq_false c5
       clear c5
       (first | rw [c5b0] | (simp only [i64_w, i32_w]; rw [c5b0]) | skip)
       have H' := Zz.mk H
       clear H
       go_wp2
       go_meet
       case rel => exact ⟨_, (false), (by first | rfl | (simp; done) | (simp [*]; done)), H', ⟨by have := HK1.out; first | omega | exact Nat.le_refl _⟩, ⟨by (with_reducible repeat (first | apply Kd.R_alloc | apply Kd.R_drewN | apply Kd.R_drew)); exact HO_4.out⟩, ⟨by repeat (first | (with_reducible first | exact HB.out | apply below_alloc | apply pw_below_drewN | apply below_drew1) | exact HB.out)⟩⟩
    case rest =>
     clear HC4
     try clear p2
     try clear c3
     try clear c5
     try clear c5b0
     try clear c6
     try clear c6b0
     try clear p7
     try clear q7
     try clear hx7
     try clear p2
     try clear p7
     try clear q7
     obtain ⟨kq, x18_3, rfl, HA, HJ3, HO_4, HB⟩ := hcut
     cases kq with
     | zero => exact absurd HA.out (by simp [liveryref27_Words.j1])
     | succ kj3 =>
       have H := HA.out
       clear HA
       simp only [liveryref27_Words.j1] at H
       have HC8 := Zz.mk H
       clear H
       go_upto_if 18 with (fail)
       go_cut [6] (fun v6 wc => ∃ (kq : Nat) (x6_7 : Int), v6 = .int .i64 x6_7 /\ Zz (liveryref27_Words.j3 kq a0 x4_1 x5_1 x6_7 = some (r1, r2)) /\ Zz (kq <= kj3) /\ Zz (Kd.R Kd.string 9 wc w.heap.size (fun _ => True) u4 x4_1) /\ Zz (Below w.heap.size w wc))
       case first =>
        have H := HC8.out
        clear HC8
        by_cases c9 : x18_3 = true
        · subst c9
          have H1 : ((liveryref27_closed.f kj3 a0 x5_1).bind fun t104 => (if t104 < 0 then (some (([] : List ByteArray), 270)) else (liveryref27_Words.j3 kj3 a0 x4_1 x5_1 t104))) = some (r1, r2) := by rw [if_pos rfl] at H; exact H
          clear H
          have H := H1
          clear H1
          replace H := Option.bind_eq_some_iff.mp H
          obtain ⟨t104, A100, H⟩ := H
          replace H : (if t104 < 0 then (some (([] : List ByteArray), 270)) else (liveryref27_Words.j3 kj3 a0 x4_1 x5_1 t104)) = some (r1, r2) := H
          have A10 := Zz.mk A100
          clear A100
          by_cases c11 : t104 < 0
          · rw [if_pos c11] at H
            have c11b0 : decide (t104 < 0) = true := decide_eq_true c11
            clear c11
            (first | rw [c11b0] | (simp only [i64_w, i32_w]; rw [c11b0]) | skip)
            simp only [Option.some.injEq, Prod.mk.injEq] at H
            obtain ⟨rfl, rfl⟩ := H
            go_wp2_with (first | ((with_reducible refine gate_callee (f := 85) rfl ?_); refine goesL_ (some 21) rfl rfl Tryz.func85 (by kernel_rfl) rfl #[.string a0, .int .i64 x5_1] rfl (by (try simp only [List.map_toArray, List.map_cons, List.map_nil]); first | done | rfl | (simp only [List.length_drop, List.length_take]; rfl)) ?_; (with_reducible refine (liveryref27_closed.calls kj3 a0 x5_1 t104 _ A10.out).mono ?_); rintro e w' ⟨rfl, ⟨nd, rfl⟩⟩; refine ⟨_, rfl, ?_⟩))
            go_ret2
            exact ⟨_, by first | rfl | (simp [errW_none, errW_some] <;> rfl) | (simp [*, errW_none, errW_some] <;> rfl), by first | exact Kd.R_nil _ _ _ _ _ | exact Kd.N_nil _ _ _ _ _ | exact Kd.V_nil _ _ _ _ _ | exact Kd.Q_nil _ _ _ _ _ | exact Kd.S_nil _ _ _ _ _, by repeat (first | (with_reducible first | exact HB.out | apply below_alloc | apply pw_below_drewN | apply below_drew1) | exact HB.out)⟩
          · rw [if_neg c11] at H
            have c11b0 : decide (t104 < 0) = false := decide_eq_false c11
            clear c11
            (first | rw [c11b0] | (simp only [i64_w, i32_w]; rw [c11b0]) | skip)
            have H' := Zz.mk H
            clear H
            go_wp2_with (first | ((with_reducible refine gate_callee (f := 85) rfl ?_); refine goesL_ (some 21) rfl rfl Tryz.func85 (by kernel_rfl) rfl #[.string a0, .int .i64 x5_1] rfl (by (try simp only [List.map_toArray, List.map_cons, List.map_nil]); first | done | rfl | (simp only [List.length_drop, List.length_take]; rfl)) ?_; (with_reducible refine (liveryref27_closed.calls kj3 a0 x5_1 t104 _ A10.out).mono ?_); rintro e w' ⟨rfl, ⟨nd, rfl⟩⟩; refine ⟨_, rfl, ?_⟩))
            go_meet
            case rel => exact ⟨_, (t104), (by first | rfl | (simp; done) | (simp [*]; done)), H', ⟨by have := HK1.out; have := HJ3.out; first | omega | exact Nat.le_refl _⟩, ⟨by (with_reducible repeat (first | apply Kd.R_alloc | apply Kd.R_drewN | apply Kd.R_drew)); exact HO_4.out⟩, ⟨by repeat (first | (with_reducible first | exact HB.out | apply below_alloc | apply pw_below_drewN | apply below_drew1) | exact HB.out)⟩⟩
        · replace c9 := Bool.eq_false_iff.mpr c9
          subst c9
          have H1 : (liveryref27_Words.l1 kj3 a0 x4_1 x5_1 x5_1) = some (r1, r2) := by rw [if_neg (show ¬ (false = true) by decide)] at H; exact H
          clear H
          have H := H1
          clear H1
          have H' := Zz.mk H
          clear H
          go_wp2
          go_loopg [6] kj3 (fun kq v6 w' => ∃ (x6_3 : Int), v6 = .int .i64 x6_3 /\ Zz (liveryref27_Words.l1 kq a0 x4_1 x5_1 x6_3 = some (r1, r2)) /\ Zz (kq <= kj3) /\ Zz (Kd.R Kd.string 9 w' w.heap.size (fun _ => True) u4 x4_1) /\ Zz (Below w.heap.size w w'))
          case atStart => exact ⟨(x5_1), (by first | rfl | (simp; done) | (simp [*]; done)), H', ⟨Nat.le_refl _⟩, ⟨by (with_reducible repeat (first | apply Kd.R_alloc | apply Kd.R_drewN | apply Kd.R_drew)); exact HO_4.out⟩, ⟨by repeat (first | (with_reducible first | exact HB.out | apply below_alloc | apply pw_below_drewN | apply below_drew1) | exact HB.out)⟩⟩
          case round =>
           clear H'
           try clear c1
           try clear p2
           try clear c3
           try clear c5
           try clear c5b0
           try clear c6
           try clear c6b0
           try clear p7
           try clear q7
           try clear hx7
           try clear c8
           try clear c9
           try clear c11
           try clear c11b0
           try clear p2
           try clear p7
           try clear q7
           obtain ⟨x6_3, rfl, HA, HK3, HO_4, HB⟩ := hrel
           cases gk with
           | zero => exact absurd HA.out (by simp [liveryref27_Words.l1])
           | succ k3 =>
             have H := HA.out
             clear HA
             simp only [liveryref27_Words.l1] at H
             by_cases c12 : x6_3 < (a0.size : Int)
             · rw [if_pos c12] at H
               have c12b0 : decide (x6_3 < (a0.size : Int)) = true := decide_eq_true c12
               clear c12
               by_cases c13 : 0 <= x6_3
               · rw [if_pos c13] at H
                 have c13b0 : decide (0 <= x6_3) = true := decide_eq_true c13
                 clear c13
                 by_cases c15 : (bt a0 x6_3) = 32
                 · rw [if_pos c15] at H
                   have c15b0 : ((bt a0 x6_3) == 32) = true := beq_iff_eq.mpr c15
                   have c15b1 : ((bt a0 x6_3) != 32) = false := bne_eq_false_iff_eq.mpr c15
                   clear c15
                   have H' := Zz.mk H
                   clear H
                   have p14 : 0 <= (x6_3 : Int) := of_decide_eq_true (by first | (with_reducible assumption) | assumption)
                   have q14 : x6_3 < (a0.size : Int) := of_decide_eq_true (by first | (with_reducible assumption) | assumption)
                   have hx14 := bt_at a0 x6_3
                   replace p14 := eq_true p14
                   replace q14 := eq_true q14
                   go_wp2
                   go_meet
                   case rel => exact ⟨_, (x6_3), (by first | rfl | (simp; done) | (simp [*]; done)), H', ⟨by have := HK1.out; have := HJ3.out; have := HK3.out; first | omega | exact Nat.le_refl _⟩, ⟨by (with_reducible repeat (first | apply Kd.R_alloc | apply Kd.R_drewN | apply Kd.R_drew)); exact HO_4.out⟩, ⟨by repeat (first | (with_reducible first | exact HB.out | apply below_alloc | apply pw_below_drewN | apply below_drew1) | exact HB.out)⟩⟩
                 · rw [if_neg c15] at H
                   have c15b0 : ((bt a0 x6_3) == 32) = false := beq_eq_false_iff_ne.mpr c15
                   have c15b1 : ((bt a0 x6_3) != 32) = true := bne_iff_ne.mpr c15
                   by_cases c17 : (bt a0 x6_3) = 34
                   · rw [if_pos c17] at H
                     have c17b0 : ((bt a0 x6_3) == 34) = true := beq_iff_eq.mpr c17
                     have c17b1 : ((bt a0 x6_3) != 34) = false := bne_eq_false_iff_eq.mpr c17
                     clear c17
                     have H' := Zz.mk H
                     clear H
                     have p14 : 0 <= (x6_3 : Int) := of_decide_eq_true (by first | (with_reducible assumption) | assumption)
                     have q14 : x6_3 < (a0.size : Int) := of_decide_eq_true (by first | (with_reducible assumption) | assumption)
                     have hx14 := bt_at a0 x6_3
                     replace p14 := eq_true p14
                     replace q14 := eq_true q14
                     have p16 : 0 <= (x6_3 : Int) := of_decide_eq_true (by first | (with_reducible assumption) | assumption)
                     have q16 : x6_3 < (a0.size : Int) := of_decide_eq_true (by first | (with_reducible assumption) | assumption)
                     have hx16 := bt_at a0 x6_3
                     replace p16 := eq_true p16
                     replace q16 := eq_true q16
                     go_wp2
                     go_meet
                     case rel => exact ⟨_, (x6_3), (by first | rfl | (simp; done) | (simp [*]; done)), H', ⟨by have := HK1.out; have := HJ3.out; have := HK3.out; first | omega | exact Nat.le_refl _⟩, ⟨by (with_reducible repeat (first | apply Kd.R_alloc | apply Kd.R_drewN | apply Kd.R_drew)); exact HO_4.out⟩, ⟨by repeat (first | (with_reducible first | exact HB.out | apply below_alloc | apply pw_below_drewN | apply below_drew1) | exact HB.out)⟩⟩
                   · rw [if_neg c17] at H
                     have c17b0 : ((bt a0 x6_3) == 34) = false := beq_eq_false_iff_ne.mpr c17
                     have c17b1 : ((bt a0 x6_3) != 34) = true := bne_iff_ne.mpr c17
                     have H' := Zz.mk H
                     clear H
                     have p14 : 0 <= (x6_3 : Int) := of_decide_eq_true (by first | (with_reducible assumption) | assumption)
                     have q14 : x6_3 < (a0.size : Int) := of_decide_eq_true (by first | (with_reducible assumption) | assumption)
                     have hx14 := bt_at a0 x6_3
                     replace p14 := eq_true p14
                     replace q14 := eq_true q14
                     have p16 : 0 <= (x6_3 : Int) := of_decide_eq_true (by first | (with_reducible assumption) | assumption)
                     have q16 : x6_3 < (a0.size : Int) := of_decide_eq_true (by first | (with_reducible assumption) | assumption)
                     have hx16 := bt_at a0 x6_3
                     replace p16 := eq_true p16
                     replace q16 := eq_true q16
                     go_wp2
                     go_roundg k3
                     case measure => have := HK1.out; have := HJ3.out; have := HK3.out; omega
                     case rel => exact ⟨(wrap64 (x6_3 + 1)), (by first | rfl | (simp; done) | (simp [*]; done)), H', ⟨by have := HK1.out; have := HJ3.out; have := HK3.out; omega⟩, ⟨by (with_reducible repeat (first | apply Kd.R_alloc | apply Kd.R_drewN | apply Kd.R_drew)); exact HO_4.out⟩, ⟨by repeat (first | (with_reducible first | exact HB.out | apply below_alloc | apply pw_below_drewN | apply below_drew1) | exact HB.out)⟩⟩
               · rw [if_neg c13] at H
                 exact absurd H (by simp)
             · rw [if_neg c12] at H
               have c12b0 : decide (x6_3 < (a0.size : Int)) = false := decide_eq_false c12
               clear c12
               have H' := Zz.mk H
               clear H
               go_wp2
               go_meet
               case rel => exact ⟨_, (x6_3), (by first | rfl | (simp; done) | (simp [*]; done)), H', ⟨by have := HK1.out; have := HJ3.out; have := HK3.out; first | omega | exact Nat.le_refl _⟩, ⟨by (with_reducible repeat (first | apply Kd.R_alloc | apply Kd.R_drewN | apply Kd.R_drew)); exact HO_4.out⟩, ⟨by repeat (first | (with_reducible first | exact HB.out | apply below_alloc | apply pw_below_drewN | apply below_drew1) | exact HB.out)⟩⟩
       case rest =>
        clear HC8
        try clear c1
        try clear p1
        try clear q1
        try clear hx1
        try clear p2
        try clear c3
        try clear c5
        try clear c5b0
        try clear c6
        try clear c6b0
        try clear p6
        try clear p7
        try clear q7
        try clear hx7
        try clear c8
        try clear c9
        try clear c11
        try clear c11b0
        try clear c12
        try clear c12b0
        try clear c13
        try clear c13b0
        try clear p14
        try clear q14
        try clear hx14
        try clear c15
        try clear c15b0
        try clear c15b1
        try clear p16
        try clear q16
        try clear hx16
        try clear c17
        try clear c17b0
        try clear c17b1
        try clear p14
        try clear p16
        try clear p2
        try clear p7
        try clear q14
        try clear q16
        try clear q7
        obtain ⟨kq, x6_7, rfl, HA, HJ7, HO_4, HB⟩ := hcut
        cases kq with
        | zero => exact absurd HA.out (by simp [liveryref27_Words.j3])
        | succ kj7 =>
          have H := HA.out
          clear HA
          simp only [liveryref27_Words.j3] at H
          have HC18 := Zz.mk H
          clear H
          go_upto_region 10 with (fail)
          go_cut [56] (fun v56 wc => ∃ (kq : Nat) (x56_17 : Bool), v56 = .bool x56_17 /\ Zz (liveryref27_Words.j4 kq a0 x4_1 x5_1 x6_7 x56_17 = some (r1, r2)) /\ Zz (kq <= kj7) /\ Zz (Kd.R Kd.string 9 wc w.heap.size (fun _ => True) u4 x4_1) /\ Zz (Below w.heap.size w wc))
          case first =>
           have H := HC18.out
           clear HC18
           by_cases c19 : x6_7 = x5_1
           · rw [if_pos c19] at H
             have c19b0 : (x6_7 == x5_1) = true := beq_iff_eq.mpr c19
             have c19b1 : (x6_7 != x5_1) = false := bne_eq_false_iff_eq.mpr c19
             clear c19
             (first | rw [c19b0] | (simp only [i64_w, i32_w]; rw [c19b0]) | skip)
             have H' := Zz.mk H
             clear H
             go_wp2
             go_meet
             case rel => exact ⟨_, (true), (by first | rfl | (simp; done) | (simp [*]; done)), H', ⟨by have := HK1.out; have := HJ3.out; have := HJ7.out; first | omega | exact Nat.le_refl _⟩, ⟨by (with_reducible repeat (first | apply Kd.R_alloc | apply Kd.R_drewN | apply Kd.R_drew)); exact HO_4.out⟩, ⟨by repeat (first | (with_reducible first | exact HB.out | apply below_alloc | apply pw_below_drewN | apply below_drew1) | exact HB.out)⟩⟩
           · rw [if_neg c19] at H
             have c19b0 : (x6_7 == x5_1) = false := beq_eq_false_iff_ne.mpr c19
             have c19b1 : (x6_7 != x5_1) = true := bne_iff_ne.mpr c19
             (first | rw [c19b0] | (simp only [i64_w, i32_w]; rw [c19b0]) | skip)
             by_cases c20 : x6_7 < (a0.size : Int)
             · rw [if_pos c20] at H
               have c20b0 : decide (x6_7 < (a0.size : Int)) = true := decide_eq_true c20
               clear c20
               by_cases c21 : 0 <= x6_7
               · rw [if_pos c21] at H
                 have c21b0 : decide (0 <= x6_7) = true := decide_eq_true c21
                 clear c21
                 have H' := Zz.mk H
                 clear H
                 have p22 : 0 <= (x6_7 : Int) := of_decide_eq_true (by first | (with_reducible assumption) | assumption)
                 have q22 : x6_7 < (a0.size : Int) := of_decide_eq_true (by first | (with_reducible assumption) | assumption)
                 have hx22 := bt_at a0 x6_7
                 replace p22 := eq_true p22
                 replace q22 := eq_true q22
                 go_wp2
                 go_meet
                 case rel => exact ⟨_, (((bt a0 x6_7) != 32)), (by first | rfl | (simp; done) | (simp [*]; done)), H', ⟨by have := HK1.out; have := HJ3.out; have := HJ7.out; first | omega | exact Nat.le_refl _⟩, ⟨by (with_reducible repeat (first | apply Kd.R_alloc | apply Kd.R_drewN | apply Kd.R_drew)); exact HO_4.out⟩, ⟨by repeat (first | (with_reducible first | exact HB.out | apply below_alloc | apply pw_below_drewN | apply below_drew1) | exact HB.out)⟩⟩
               · rw [if_neg c21] at H
                 exact absurd H (by simp)
             · rw [if_neg c20] at H
               have c20b0 : decide (x6_7 < (a0.size : Int)) = false := decide_eq_false c20
               clear c20
               have H' := Zz.mk H
               clear H
               go_wp2
               go_meet
               case rel => exact ⟨_, (false), (by first | rfl | (simp; done) | (simp [*]; done)), H', ⟨by have := HK1.out; have := HJ3.out; have := HJ7.out; first | omega | exact Nat.le_refl _⟩, ⟨by (with_reducible repeat (first | apply Kd.R_alloc | apply Kd.R_drewN | apply Kd.R_drew)); exact HO_4.out⟩, ⟨by repeat (first | (with_reducible first | exact HB.out | apply below_alloc | apply pw_below_drewN | apply below_drew1) | exact HB.out)⟩⟩
          case rest =>
           clear HC18
           try clear c1
           try clear p1
           try clear q1
           try clear hx1
           try clear c2
           try clear p2
           try clear q2
           try clear hx2
           try clear c3
           try clear c5
           try clear c5b0
           try clear c6
           try clear c6b0
           try clear p6
           try clear p7
           try clear q7
           try clear hx7
           try clear c8
           try clear c9
           try clear c11
           try clear c11b0
           try clear c12
           try clear c12b0
           try clear c13
           try clear c13b0
           try clear p14
           try clear q14
           try clear hx14
           try clear c15
           try clear c15b0
           try clear c15b1
           try clear p16
           try clear q16
           try clear hx16
           try clear c17
           try clear c17b0
           try clear c17b1
           try clear c19
           try clear c19b0
           try clear c19b1
           try clear c20
           try clear c20b0
           try clear c21
           try clear c21b0
           try clear p22
           try clear q22
           try clear hx22
           try clear p1
           try clear p14
           try clear p16
           try clear p2
           try clear p22
           try clear p6
           try clear p7
           try clear q1
           try clear q14
           try clear q16
           try clear q22
           try clear q7
           obtain ⟨kq, x56_17, rfl, HA, HJ17, HO_4, HB⟩ := hcut
           cases kq with
           | zero => exact absurd HA.out (by simp [liveryref27_Words.j4])
           | succ kj17 =>
             have H := HA.out
             clear HA
             simp only [liveryref27_Words.j4] at H
             by_cases c23 : x56_17 = true
             · subst c23
               have H1 : (some (([] : List ByteArray), 270)) = some (r1, r2) := by rw [if_pos rfl] at H; exact H
               clear H
               have H := H1
               clear H1
               simp only [Option.some.injEq, Prod.mk.injEq] at H
               obtain ⟨rfl, rfl⟩ := H
               go_wp2
               go_ret2
               exact ⟨_, by first | rfl | (simp [errW_none, errW_some] <;> rfl) | (simp [*, errW_none, errW_some] <;> rfl), by first | exact Kd.R_nil _ _ _ _ _ | exact Kd.N_nil _ _ _ _ _ | exact Kd.V_nil _ _ _ _ _ | exact Kd.Q_nil _ _ _ _ _ | exact Kd.S_nil _ _ _ _ _, by repeat (first | (with_reducible first | exact HB.out | apply below_alloc | apply pw_below_drewN | apply below_drew1) | exact HB.out)⟩
             · replace c23 := Bool.eq_false_iff.mpr c23
               subst c23
               have H1 : (if 0 <= x5_1 then (if x5_1 <= x6_7 then (if x6_7 <= (a0.size : Int) then (if x4_1.length < 8796093022208 then ((some (x4_1 ++ [a0.extract (x5_1 : Int).toNat (x6_7 : Int).toNat] : List ByteArray)).bind fun y105 => (if x6_7 = (a0.size : Int) then (some (y105, 0)) else (liveryref27_Words.l0 kj17 a0 y105 (wrap64 (x6_7 + 1))))) else (none)) else (none)) else (none)) else (none)) = some (r1, r2) := by rw [if_neg (show ¬ (false = true) by decide)] at H; exact H
               clear H
               have H := H1
               clear H1
               by_cases c24 : 0 <= x5_1
               · rw [if_pos c24] at H
                 have c24b0 := eq_true c24
                 have c24b1 : decide (0 <= x5_1) = true := decide_eq_true c24
                 clear c24
                 by_cases c25 : x5_1 <= x6_7
                 · rw [if_pos c25] at H
                   have c25b0 := eq_true c25
                   have c25b1 : decide (x5_1 <= x6_7) = true := decide_eq_true c25
                   clear c25
                   by_cases c26 : x6_7 <= (a0.size : Int)
                   · rw [if_pos c26] at H
                     have c26b0 := eq_true c26
                     have c26b1 : decide (x6_7 <= (a0.size : Int)) = true := decide_eq_true c26
                     clear c26
                     by_cases c27 : x4_1.length < 8796093022208
                     · rw [if_pos c27] at H
                       have LMc27 := Zz.mk c27
                       clear c27
                       obtain ⟨y105, hy105⟩ : ∃ y_ : List ByteArray, y_ = (x4_1 ++ [a0.extract (x5_1 : Int).toNat (x6_7 : Int).toNat]) := ⟨_, rfl⟩
                       replace H : (if x6_7 = (a0.size : Int) then (some (y105, 0)) else (liveryref27_Words.l0 kj17 a0 y105 (wrap64 (x6_7 + 1)))) = some (r1, r2) := by first | (rw [hy105]; with_reducible exact H) | (have H2_ := (Option.bind_some _ _).symm.trans H; rw [hy105]; with_reducible exact H2_) | (have H2_ := (Option.bind_some _ _).symm.trans H; with_reducible exact H2_) | with_reducible exact H | (rw [hy105]; exact H) | exact H
                       have Ny105 := Zz.mk hy105
                       clear hy105
                       by_cases c28 : x6_7 = (a0.size : Int)
                       · rw [if_pos c28] at H
                         have c28b0 : (x6_7 == (a0.size : Int)) = true := beq_iff_eq.mpr c28
                         have c28b1 : (x6_7 != (a0.size : Int)) = false := bne_eq_false_iff_eq.mpr c28
                         clear c28
                         simp only [Option.some.injEq, Prod.mk.injEq] at H
                         obtain ⟨rfl, rfl⟩ := H
                         go_wp2_with (first | ((with_reducible refine gate_builtin (b := .append) (xs := #[.tmp 57, .tmp 62]) rfl ?_); (try (refine gate_guard (by rfl) ?_; dsimp only)); at_builtin; refine Kd.R_append Kd.string (w0 := w) w.heap.size rfl (.tmp 57) (.tmp 62) 22 9 (.string ⟨#[]⟩) 16 rfl Tryz.underlying22 info9 rfl (by decide) (by omega) u4 x4_1 (a0.extract (x5_1 : Int).toNat (x6_7 : Int).toNat) [.string (a0.extract (x5_1 : Int).toNat (x6_7 : Int).toNat)] (fun _ => True) (fun _ => False) rfl rfl ?aP (fun _ hk => hk.elim) ?aF ?aO ?aB ?aS ?aL ?_; (case aP => exact rfl); (case aB => exact (by repeat (first | (with_reducible first | exact HB.out | apply below_alloc | apply pw_below_drewN | apply below_drew1) | exact HB.out))); (case aF => exact (fun _ _ => trivial)); (case aO => exact (by (with_reducible repeat (first | apply Kd.R_alloc | apply Kd.R_drewN | apply Kd.R_drew)); exact HO_4.out)); (case aS => exact (below_size (by repeat (first | (with_reducible first | exact HB.out | apply below_alloc | apply pw_below_drewN | apply below_drew1) | exact HB.out)))); (case aL => have := LMc27.out; omega); intro v106 w29 ho hb hg hat; rw [<- Ny105.out] at ho; have n0_ := Zz.mk (hb); have n1_ := Zz.mk (ho); clear HB; clear HO_4; have HB := n0_; have HO107 := n1_; clear n0_ n1_; clear ho hb hg hat))
                         go_ret2
                         exact ⟨_, by first | rfl | (simp [errW_none, errW_some] <;> rfl) | (simp [*, errW_none, errW_some] <;> rfl), by (with_reducible repeat (first | apply Kd.R_alloc | apply Kd.R_drewN | apply Kd.R_drew)); exact HO107.out, by repeat (first | (with_reducible first | exact HB.out | apply below_alloc | apply pw_below_drewN | apply below_drew1) | exact HB.out)⟩
                       · rw [if_neg c28] at H
                         have c28b0 : (x6_7 == (a0.size : Int)) = false := beq_eq_false_iff_ne.mpr c28
                         have c28b1 : (x6_7 != (a0.size : Int)) = true := bne_iff_ne.mpr c28
                         have H' := Zz.mk H
                         clear H
                         go_wp2_with (first | ((with_reducible refine gate_builtin (b := .append) (xs := #[.tmp 57, .tmp 62]) rfl ?_); (try (refine gate_guard (by rfl) ?_; dsimp only)); at_builtin; refine Kd.R_append Kd.string (w0 := w) w.heap.size rfl (.tmp 57) (.tmp 62) 22 9 (.string ⟨#[]⟩) 16 rfl Tryz.underlying22 info9 rfl (by decide) (by omega) u4 x4_1 (a0.extract (x5_1 : Int).toNat (x6_7 : Int).toNat) [.string (a0.extract (x5_1 : Int).toNat (x6_7 : Int).toNat)] (fun _ => True) (fun _ => False) rfl rfl ?aP (fun _ hk => hk.elim) ?aF ?aO ?aB ?aS ?aL ?_; (case aP => exact rfl); (case aB => exact (by repeat (first | (with_reducible first | exact HB.out | apply below_alloc | apply pw_below_drewN | apply below_drew1) | exact HB.out))); (case aF => exact (fun _ _ => trivial)); (case aO => exact (by (with_reducible repeat (first | apply Kd.R_alloc | apply Kd.R_drewN | apply Kd.R_drew)); exact HO_4.out)); (case aS => exact (below_size (by repeat (first | (with_reducible first | exact HB.out | apply below_alloc | apply pw_below_drewN | apply below_drew1) | exact HB.out)))); (case aL => have := LMc27.out; omega); intro v106 w30 ho hb hg hat; rw [<- Ny105.out] at ho; have n0_ := Zz.mk (hb); have n1_ := Zz.mk (ho); clear HB; clear HO_4; have HB := n0_; have HO107 := n1_; clear n0_ n1_; clear ho hb hg hat))
                         go_roundg kj17
                         case measure => have := HK1.out; have := HJ3.out; have := HJ7.out; have := HJ17.out; omega
                         case rel => exact ⟨(y105), (wrap64 (x6_7 + 1)), (by first | rfl | (simp; done) | (simp [*]; done)), H', ⟨by have := HK1.out; have := HJ3.out; have := HJ7.out; have := HJ17.out; omega⟩, ⟨by (with_reducible repeat (first | apply Kd.R_alloc | apply Kd.R_drewN | apply Kd.R_drew)); exact HO107.out⟩, ⟨by repeat (first | (with_reducible first | exact HB.out | apply below_alloc | apply pw_below_drewN | apply below_drew1) | exact HB.out)⟩⟩
                     · rw [if_neg c27] at H
                       exact absurd H (by simp)
                   · rw [if_neg c26] at H
                     exact absurd H (by simp)
                 · rw [if_neg c25] at H
                   exact absurd H (by simp)
               · rw [if_neg c24] at H
                 exact absurd H (by simp)
end Go.Proofs.YtpdinahdcedmkaaGreatDoor.V
