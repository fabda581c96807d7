import Derived.Test.YtpdinahdcedmkaaDoorQSAct
import Derived.Test.YtpdinahdcedmkaaDoorQ101
import Derived.Lib.SlBytesConst
/- liverylaw27.live: the chapter's examples are so. -/
namespace Go.Proofs.YtpdinahdcedmkaaDoor.ExtQ
open Go.Proofs.YtpdinahdcedmkaaDoor.Ext
open Go.Proofs.YtpdinahdcedmkaaDoor.Q
set_option linter.unusedVariables false
set_option linter.unusedSimpArgs false
open Go.RowKit Go.Proofs.YtpdinahdcedmkaaDoorW.PrintLast Go.Proofs.YtpdinahdcedmkaaDoorW.PrintMore
open Go.Proofs.YtpdinahdcedmkaaDoorW.PrintWords hiding blk_cell blk_set nums_append

def signT : ByteArray := ⟨#[115, 105, 103, 110, 32, 34, 97, 108, 112, 104, 97, 34, 32, 50, 53, 54, 32, 34, 104, 101, 108, 108, 111, 34]⟩
theorem live_sign : script_Line.f 1 8 1 liveN [] 3 0 0 0 [] 0 256 0 0 0 0 [104, 101, 108, 108, 111] [] = some (signT, 0) := by decide +kernel
theorem live_act : script_Act.f 8 1 liveN [] liveT = some (16, 1, 0, 0, [], 0, 0, 0, 0, 0, 0, [], [true, false, true], 0) := by unfold script_Act.f; rw [if_pos ⟨rfl, rfl, rfl, rfl, rfl⟩]
theorem C_row {α : Type} {enc : α → Value} {h1 : ∀ x, (enc x).oneCell' = true} {W : World} {b : Nat} {t : TypeId} {fr : Nat × Nat} (l : List α) (h : W.heap[b]? = some (.cells (l.map enc).toArray t fr)) (hl : l.length ≤ 1000) : Kd.C (Kd.scalar enc h1) W (some ⟨b, 0, none⟩) l.length l := by
  refine ⟨rfl, by omega, fun _ => ⟨_, rfl, fun j p hj => ⟨[enc p], rfl, rfl, fun i u hu => ?_⟩⟩⟩
  match i, hu with
  | 0, hu =>
    simp only [List.getElem?_cons_zero, Option.some.injEq] at hu
    subst hu
    have e : (⟨b, 0, none⟩ : Addr).add (j * 1 + 0) = ⟨b, j, none⟩ := by unfold Addr.add; by_cases h : j = 0 <;> simp [h]
    show W.cell? ((⟨b, 0, none⟩ : Addr).add (j * 1 + 0)) = _
    rw [e, cell_of_row W b j _ t fr h]
    simp [hj]
  | (n + 1), hu => simp at hu
set_option maxHeartbeats 4000000 in
set_option maxRecDepth 100000 in
theorem live_walk (w : World) (hT : Aside0 (Lib.Utf8Tabs 0 1 w)) :
    Calls Tryd.prog 7 #[] w fun e w' => e = .returned (.bool true) ∧ Below w.heap.size w w' := by
  have hcv := Lib.run_convert_bytes_const (P := Tryd.prog) ((w.alloc (.cells #[.string ⟨#[97, 108, 112, 104, 97]⟩, .string ⟨#[98]⟩] 9)).alloc (.cells #[.int .i64 8, .int .i64 1, .slice (some ⟨w.heap.size, 0, none⟩) 2 2, .slice none 0 0] 33)) 39 5 #[.int .u8 104, .int .u8 101, .int .u8 108, .int .u8 108, .int .u8 111] 5 5 Tryd.underlying39 Tryd.underlying5
  rw [show ((w.alloc (.cells #[.string ⟨#[97, 108, 112, 104, 97]⟩, .string ⟨#[98]⟩] 9)).alloc (.cells #[.int .i64 8, .int .i64 1, .slice (some ⟨w.heap.size, 0, none⟩) 2 2, .slice none 0 0] 33)).heap.size = w.heap.size + 1 + 1 by simp, show (#[.int .u8 104, .int .u8 101, .int .u8 108, .int .u8 108, .int .u8 111] : Array Value).size = 5 from rfl] at hcv
  have hsl : signT.toList = [115, 105, 103, 110, 32, 34, 97, 108, 112, 104, 97, 34, 32, 50, 53, 54, 32, 34, 104, 101, 108, 108, 111, 34] := by decide +kernel
  go_enter Tryd.func7, Tryd.ntmps7
  go_wp2_with fail
  have HS : Aside0 ((((w.alloc (.cells #[.string ⟨#[97, 108, 112, 104, 97]⟩, .string ⟨#[98]⟩] 9)).alloc (.cells #[.int .i64 8, .int .i64 1, .slice (some ⟨w.heap.size, 0, none⟩) 2 2, .slice none 0 0] 33)).alloc (.cells #[.int .u8 104, .int .u8 101, .int .u8 108, .int .u8 108, .int .u8 111] 5 (5, 6))).heap[w.heap.size]? = some (.cells #[.string ⟨#[97, 108, 112, 104, 97]⟩, .string ⟨#[98]⟩] 9)) := ⟨knew (knew (heap_alloc_new w _))⟩
  have HP : Aside0 ((((w.alloc (.cells #[.string ⟨#[97, 108, 112, 104, 97]⟩, .string ⟨#[98]⟩] 9)).alloc (.cells #[.int .i64 8, .int .i64 1, .slice (some ⟨w.heap.size, 0, none⟩) 2 2, .slice none 0 0] 33)).alloc (.cells #[.int .u8 104, .int .u8 101, .int .u8 108, .int .u8 108, .int .u8 111] 5 (5, 6))).heap[w.heap.size + 1]? = some (.cells #[.int .i64 8, .int .i64 1, .slice (some ⟨w.heap.size, 0, none⟩) 2 2, .slice none 0 0] 33)) := ⟨knew (by have h := heap_alloc_new (w.alloc (.cells #[.string ⟨#[97, 108, 112, 104, 97]⟩, .string ⟨#[98]⟩] 9)) (.cells #[.int .i64 8, .int .i64 1, .slice (some ⟨w.heap.size, 0, none⟩) 2 2, .slice none 0 0] 33); simpa using h)⟩
  have HY : Aside0 ((((w.alloc (.cells #[.string ⟨#[97, 108, 112, 104, 97]⟩, .string ⟨#[98]⟩] 9)).alloc (.cells #[.int .i64 8, .int .i64 1, .slice (some ⟨w.heap.size, 0, none⟩) 2 2, .slice none 0 0] 33)).alloc (.cells #[.int .u8 104, .int .u8 101, .int .u8 108, .int .u8 108, .int .u8 111] 5 (5, 6))).heap[w.heap.size + 2]? = some (.cells #[.int .u8 104, .int .u8 101, .int .u8 108, .int .u8 108, .int .u8 111] 5 (5, 6))) := ⟨by have h := heap_alloc_new ((w.alloc (.cells #[.string ⟨#[97, 108, 112, 104, 97]⟩, .string ⟨#[98]⟩] 9)).alloc (.cells #[.int .i64 8, .int .i64 1, .slice (some ⟨w.heap.size, 0, none⟩) 2 2, .slice none 0 0] 33)) (.cells #[.int .u8 104, .int .u8 101, .int .u8 108, .int .u8 108, .int .u8 111] 5 (5, 6)); rw [show ((w.alloc (.cells #[.string ⟨#[97, 108, 112, 104, 97]⟩, .string ⟨#[98]⟩] 9)).alloc (.cells #[.int .i64 8, .int .i64 1, .slice (some ⟨w.heap.size, 0, none⟩) 2 2, .slice none 0 0] 33)).heap.size = w.heap.size + 2 by simp] at h; exact h⟩
  have HB := Aside0.mk ((((Below.refl w.heap.size w).alloc (Nat.le_refl _) (.cells #[.string ⟨#[97, 108, 112, 104, 97]⟩, .string ⟨#[98]⟩] 9)).alloc (by simp) (.cells #[.int .i64 8, .int .i64 1, .slice (some ⟨w.heap.size, 0, none⟩) 2 2, .slice none 0 0] 33)).alloc (by simp; omega) (.cells #[.int .u8 104, .int .u8 101, .int .u8 108, .int .u8 108, .int .u8 111] 5 (5, 6)))
  have N0 : ∀ W, Kd.C k42 W none 0 ([] : List S42) := fun W => ⟨rfl, by omega, fun h => absurd h (by omega)⟩
  have N1 : ∀ W, Kd.C k72 W none 0 ([] : List S72) := fun W => ⟨rfl, by omega, fun h => absurd h (by omega)⟩
  have N2 : ∀ W, Kd.C Kd.bool W none 0 ([] : List Bool) := fun W => ⟨rfl, by omega, fun h => absurd h (by omega)⟩
  refine (script_Line.calls 1 8 1 (some ⟨w.heap.size, 0, none⟩) 2 liveN none 0 [] 3 0 0 0 none 0 [] 0 256 0 0 0 0 (some ⟨w.heap.size + 2, 0, none⟩) 5 [104, 101, 108, 108, 111] none 0 [] signT 0 _ (C_row liveN HS.out (by decide)) (by decide) (N0 _) (Nat.zero_le _) (N1 _) (Nat.zero_le _) (C_row [104, 101, 108, 108, 111] HY.out (by decide)) (by decide) (N2 _) (Nat.zero_le _) live_sign (tabs_at hT HB.out)).mono ?_
  rintro e v1 ⟨rfl, hb1⟩
  have HS1 := Aside0.mk (krow HS.out hb1)
  have HP1 := Aside0.mk (krow HP.out hb1)
  have HB1 := Aside0.mk (HB.out.trans (hb1.mono HB.out.size))
  have cA := Lib.hid (script_Act.calls 8 1 (some ⟨w.heap.size, 0, none⟩) 2 liveN none 0 [] liveT 16 1 0 0 [] 0 0 0 0 0 0 [] [true, false, true] 0 v1 (C_row liveN HS1.out (by decide)) (by decide) (N0 _) (Nat.zero_le _) live_act (tabs_at hT HB1.out))
  clear hb1 N0 N1 N2 HS HP HY HB HS1
  have p0 : v1.cell? ⟨w.heap.size + 1, 0, none⟩ = some (.int .i64 8) := blk_cell HP1.out 0
  have p1 : v1.cell? ⟨w.heap.size + 1, 1, none⟩ = some (.int .i64 1) := blk_cell HP1.out 1
  have p2 : v1.cell? ⟨w.heap.size + 1, 2, none⟩ = some (.slice (some ⟨w.heap.size, 0, none⟩) 2 2) := blk_cell HP1.out 2
  have p3 : v1.cell? ⟨w.heap.size + 1, 3, none⟩ = some (.slice none 0 0) := blk_cell HP1.out 3
  go_wp2_with fail
  refine cA.out.mono ?_
  rintro e v2 ⟨y0, y1, y2, rfl, h0, h1, h2, hb2⟩
  obtain ⟨A0, c0, rfl, _, _⟩ := Kd.R_reads h0
  obtain ⟨A1, c1, rfl, _, _⟩ := Kd.R_reads h1
  obtain ⟨A2, c2, rfl, _, hC⟩ := Kd.R_reads h2
  have hC2 : Kd.C Kd.bool (v2.alloc (.cells #[.int .i64 16, .int .i64 1, .int .i64 0, .int .i64 0, .slice A0 0 c0, .int .u32 0, .int .u32 0, .int .u32 0, .int .u64 0, .int .u64 0, .int .i64 0, .slice A1 0 c1, .slice A2 3 c2] 42)) A2 3 [true, false, true] := Kd.C_below hC (cellsBelow _ _)
  obtain ⟨ad, eA, hx0⟩ := Kd.at_bool hC2 0 (by omega) (by omega)
  obtain ⟨ad', eA', hx1⟩ := Kd.at_bool hC2 1 (by omega) (by omega)
  subst eA
  cases eA'
  rw [show rdOf false [true, false, true] 0 = true from rfl, show ((0 : Int)).toNat = 0 from rfl, Addr.add_zero'] at hx0
  rw [show rdOf false [true, false, true] 1 = false from rfl, show ((1 : Int)).toNat = 1 from rfl] at hx1
  replace hx1 : (v2.alloc (.cells #[.int .i64 16, .int .i64 1, .int .i64 0, .int .i64 0, .slice A0 0 c0, .int .u32 0, .int .u32 0, .int .u32 0, .int .u64 0, .int .u64 0, .int .i64 0, .slice A1 0 c1, .slice (some ad) 3 c2] 42)).cell? ⟨ad.block, ad.off + 1, none⟩ = some (.bool false) := hx1
  have HBZ := Aside0.mk ((HB1.out.trans (hb2.mono HB1.out.size)).alloc (HB1.out.trans (hb2.mono HB1.out.size)).size (.cells #[.int .i64 16, .int .i64 1, .int .i64 0, .int .i64 0, .slice A0 0 c0, .int .u32 0, .int .u32 0, .int .u32 0, .int .u64 0, .int .u64 0, .int .i64 0, .slice A1 0 c1, .slice (some ad) 3 c2] 42))
  have has := act_store v2 #[.int .i64 0, .int .i64 0, .int .i64 0, .int .i64 0, .slice none 0 0, .int .u32 0, .int .u32 0, .int .u32 0, .int .u64 0, .int .u64 0, .int .i64 0, .slice none 0 0, .slice none 0 0] #[.int .i64 16, .int .i64 1, .int .i64 0, .int .i64 0, .slice A0 0 c0, .int .u32 0, .int .u32 0, .int .u32 0, .int .u64 0, .int .u64 0, .int .i64 0, .slice A1 0 c1, .slice (some ad) 3 c2] rfl rfl (by simp [Value.oneCell'])
  clear h0 h1 h2 hb2 hC hC2 cA
  go_wp2_with fail
  go_ret
  exact ⟨rfl, HBZ.out⟩
end Go.Proofs.YtpdinahdcedmkaaDoor.ExtQ

