import Derived.Test.YtpdinahdcedmkaaDoorQ0
import Derived.Test.YtpdinahdcedmkaaDoorMWl
import Derived.Test.YtpdinahdcedmkaaDoorMHead
/- script.said, of the letters d, k, m and p. -/
namespace Go.Proofs.YtpdinahdcedmkaaDoor.ExtQ
open Go.Proofs.YtpdinahdcedmkaaDoor.Ext
open Go.Proofs.YtpdinahdcedmkaaDoor.Q
set_option linter.unusedVariables false
set_option linter.unusedSimpArgs false
open Go.RowKit Go.Proofs.YtpdinahdcedmkaaDoorW.PrintLast Go.Proofs.YtpdinahdcedmkaaDoorW.PrintMore
open Go.Proofs.YtpdinahdcedmkaaDoorW.PrintWords hiding blk_cell blk_set nums_append

set_option maxHeartbeats 4000000 in
set_option maxRecDepth 100000 in
theorem said_d (a2 : Int) (a0_0 : Int) (a0_1 : Int) (A0_2 : Option Addr) (c0_2 : Nat) (l0_2 : List ByteArray) (A0_3 : Option Addr) (c0_3 : Nat) (l0_3 : List (S42)) (a1_0 : Int) (a1_1 : Int) (a1_2 : Int) (a1_3 : Int) (A1_4 : Option Addr) (c1_4 : Nat) (l1_4 : List (S72)) (a1_5 : Int) (a1_6 : Int) (a1_7 : Int) (a1_8 : Int) (a1_9 : Int) (a1_10 : Int) (A1_11 : Option Addr) (c1_11 : Nat) (l1_11 : List Int) (A1_12 : Option Addr) (c1_12 : Nat) (l1_12 : List Bool) (r : ByteArray) (w : World) (hr0_2 : Kd.C Kd.string w A0_2 l0_2.length l0_2) (hc0_2 : l0_2.length ≤ c0_2) (hr0_3 : Kd.C k42 w A0_3 l0_3.length l0_3) (hc0_3 : l0_3.length ≤ c0_3) (hr1_4 : Kd.C k72 w A1_4 l1_4.length l1_4) (hc1_4 : l1_4.length ≤ c1_4) (hr1_11 : Kd.C (Kd.int .u8) w A1_11 l1_11.length l1_11) (hc1_11 : l1_11.length ≤ c1_11) (hr1_12 : Kd.C Kd.bool w A1_12 l1_12.length l1_12) (hc1_12 : l1_12.length ≤ c1_12) (h2 : a2 = 100) (h : 0 ≤ a1_1 ∧ a1_1 < (l0_2.length : Int) ∧ octet_Quote.f (rdOf ByteArray.empty l0_2 a1_1) = some r) (hT : Aside0 (Lib.Utf8Tabs 0 1 w)) :
    Calls Tryd.prog 37 #[.agg #[.int .i64 a0_0, .int .i64 a0_1, .slice A0_2 l0_2.length c0_2, .slice A0_3 l0_3.length c0_3], .agg #[.int .i64 a1_0, .int .i64 a1_1, .int .i64 a1_2, .int .i64 a1_3, .slice A1_4 l1_4.length c1_4, .int .u32 a1_5, .int .u32 a1_6, .int .u32 a1_7, .int .u64 a1_8, .int .u64 a1_9, .int .i64 a1_10, .slice A1_11 l1_11.length c1_11, .slice A1_12 l1_12.length c1_12], .int .i32 a2] w fun e w' => e = .returned (.string r) ∧ Below w.heap.size w w' := by
  subst h2
  obtain ⟨g0, g1, hq⟩ := h
  have HP0 : Aside0 (((w.alloc (.cells #[.int .i64 a0_0, .int .i64 a0_1, .slice A0_2 l0_2.length c0_2, .slice A0_3 l0_3.length c0_3] 33)).alloc (.cells #[.int .i64 a1_0, .int .i64 a1_1, .int .i64 a1_2, .int .i64 a1_3, .slice A1_4 l1_4.length c1_4, .int .u32 a1_5, .int .u32 a1_6, .int .u32 a1_7, .int .u64 a1_8, .int .u64 a1_9, .int .i64 a1_10, .slice A1_11 l1_11.length c1_11, .slice A1_12 l1_12.length c1_12] 42)).heap[w.heap.size]? = some (.cells #[.int .i64 a0_0, .int .i64 a0_1, .slice A0_2 l0_2.length c0_2, .slice A0_3 l0_3.length c0_3] 33)) := ⟨knew (heap_alloc_new w _)⟩
  have HA0 : Aside0 (((w.alloc (.cells #[.int .i64 a0_0, .int .i64 a0_1, .slice A0_2 l0_2.length c0_2, .slice A0_3 l0_3.length c0_3] 33)).alloc (.cells #[.int .i64 a1_0, .int .i64 a1_1, .int .i64 a1_2, .int .i64 a1_3, .slice A1_4 l1_4.length c1_4, .int .u32 a1_5, .int .u32 a1_6, .int .u32 a1_7, .int .u64 a1_8, .int .u64 a1_9, .int .i64 a1_10, .slice A1_11 l1_11.length c1_11, .slice A1_12 l1_12.length c1_12] 42)).heap[w.heap.size + 1]? = some (.cells #[.int .i64 a1_0, .int .i64 a1_1, .int .i64 a1_2, .int .i64 a1_3, .slice A1_4 l1_4.length c1_4, .int .u32 a1_5, .int .u32 a1_6, .int .u32 a1_7, .int .u64 a1_8, .int .u64 a1_9, .int .i64 a1_10, .slice A1_11 l1_11.length c1_11, .slice A1_12 l1_12.length c1_12] 42)) := ⟨by have h := heap_alloc_new (w.alloc (.cells #[.int .i64 a0_0, .int .i64 a0_1, .slice A0_2 l0_2.length c0_2, .slice A0_3 l0_3.length c0_3] 33)) (.cells #[.int .i64 a1_0, .int .i64 a1_1, .int .i64 a1_2, .int .i64 a1_3, .slice A1_4 l1_4.length c1_4, .int .u32 a1_5, .int .u32 a1_6, .int .u32 a1_7, .int .u64 a1_8, .int .u64 a1_9, .int .i64 a1_10, .slice A1_11 l1_11.length c1_11, .slice A1_12 l1_12.length c1_12] 42); simpa using h⟩
  have HB := Aside0.mk (((Below.refl w.heap.size w).alloc (Nat.le_refl _) (.cells #[.int .i64 a0_0, .int .i64 a0_1, .slice A0_2 l0_2.length c0_2, .slice A0_3 l0_3.length c0_3] 33)).alloc (by simp) (.cells #[.int .i64 a1_0, .int .i64 a1_1, .int .i64 a1_2, .int .i64 a1_3, .slice A1_4 l1_4.length c1_4, .int .u32 a1_5, .int .u32 a1_6, .int .u32 a1_7, .int .u64 a1_8, .int .u64 a1_9, .int .i64 a1_10, .slice A1_11 l1_11.length c1_11, .slice A1_12 l1_12.length c1_12] 42))
  obtain ⟨ad1, ea1, hx1⟩ := Kd.at_string (Kd.C_below hr0_2 HB.out) a1_1 g0 g1
  have HA2 := Aside0.mk hr0_2
  have cq := Lib.hid (fun w hT => octet_Quote.calls (rdOf ByteArray.empty l0_2 a1_1) r w hq hT)
  generalize rdOf ByteArray.empty l0_2 a1_1 = x at *
  subst ea1
  clear hq hr0_2 hr0_3 hc0_3 hr1_4 hc1_4 hr1_11 hc1_11 hr1_12 hc1_12 HA2
  have qp0 : ((w.alloc (.cells #[.int .i64 a0_0, .int .i64 a0_1, .slice (some ad1) l0_2.length c0_2, .slice A0_3 l0_3.length c0_3] 33)).alloc (.cells #[.int .i64 a1_0, .int .i64 a1_1, .int .i64 a1_2, .int .i64 a1_3, .slice A1_4 l1_4.length c1_4, .int .u32 a1_5, .int .u32 a1_6, .int .u32 a1_7, .int .u64 a1_8, .int .u64 a1_9, .int .i64 a1_10, .slice A1_11 l1_11.length c1_11, .slice A1_12 l1_12.length c1_12] 42)).cell? ⟨w.heap.size, 0, none⟩ = some (.int .i64 a0_0) := blk_cell HP0.out 0
  have qp1 : ((w.alloc (.cells #[.int .i64 a0_0, .int .i64 a0_1, .slice (some ad1) l0_2.length c0_2, .slice A0_3 l0_3.length c0_3] 33)).alloc (.cells #[.int .i64 a1_0, .int .i64 a1_1, .int .i64 a1_2, .int .i64 a1_3, .slice A1_4 l1_4.length c1_4, .int .u32 a1_5, .int .u32 a1_6, .int .u32 a1_7, .int .u64 a1_8, .int .u64 a1_9, .int .i64 a1_10, .slice A1_11 l1_11.length c1_11, .slice A1_12 l1_12.length c1_12] 42)).cell? ⟨w.heap.size, 1, none⟩ = some (.int .i64 a0_1) := blk_cell HP0.out 1
  have qp2 : ((w.alloc (.cells #[.int .i64 a0_0, .int .i64 a0_1, .slice (some ad1) l0_2.length c0_2, .slice A0_3 l0_3.length c0_3] 33)).alloc (.cells #[.int .i64 a1_0, .int .i64 a1_1, .int .i64 a1_2, .int .i64 a1_3, .slice A1_4 l1_4.length c1_4, .int .u32 a1_5, .int .u32 a1_6, .int .u32 a1_7, .int .u64 a1_8, .int .u64 a1_9, .int .i64 a1_10, .slice A1_11 l1_11.length c1_11, .slice A1_12 l1_12.length c1_12] 42)).cell? ⟨w.heap.size, 2, none⟩ = some (.slice (some ad1) l0_2.length c0_2) := blk_cell HP0.out 2
  have qp3 : ((w.alloc (.cells #[.int .i64 a0_0, .int .i64 a0_1, .slice (some ad1) l0_2.length c0_2, .slice A0_3 l0_3.length c0_3] 33)).alloc (.cells #[.int .i64 a1_0, .int .i64 a1_1, .int .i64 a1_2, .int .i64 a1_3, .slice A1_4 l1_4.length c1_4, .int .u32 a1_5, .int .u32 a1_6, .int .u32 a1_7, .int .u64 a1_8, .int .u64 a1_9, .int .i64 a1_10, .slice A1_11 l1_11.length c1_11, .slice A1_12 l1_12.length c1_12] 42)).cell? ⟨w.heap.size, 3, none⟩ = some (.slice A0_3 l0_3.length c0_3) := blk_cell HP0.out 3
  have qa1 : ((w.alloc (.cells #[.int .i64 a0_0, .int .i64 a0_1, .slice (some ad1) l0_2.length c0_2, .slice A0_3 l0_3.length c0_3] 33)).alloc (.cells #[.int .i64 a1_0, .int .i64 a1_1, .int .i64 a1_2, .int .i64 a1_3, .slice A1_4 l1_4.length c1_4, .int .u32 a1_5, .int .u32 a1_6, .int .u32 a1_7, .int .u64 a1_8, .int .u64 a1_9, .int .i64 a1_10, .slice A1_11 l1_11.length c1_11, .slice A1_12 l1_12.length c1_12] 42)).cell? ⟨w.heap.size + 1, 1, none⟩ = some (.int .i64 a1_1) := blk_cell HA0.out 1
  go_enter Tryd.func37, Tryd.ntmps37
  go_wp2_with (first
    | (go_at_call 51
       refine (cq.out _ (tabs_at hT HB.out)).mono ?_
       rintro e v ⟨rfl, hb⟩)
    | fail)
  go_ret
  exact ⟨rfl, HB.out.trans (hb.mono HB.out.size)⟩
set_option maxHeartbeats 4000000 in
set_option maxRecDepth 100000 in
theorem said_k (a2 : Int) (a0_0 : Int) (a0_1 : Int) (A0_2 : Option Addr) (c0_2 : Nat) (l0_2 : List ByteArray) (A0_3 : Option Addr) (c0_3 : Nat) (l0_3 : List (S42)) (a1_0 : Int) (a1_1 : Int) (a1_2 : Int) (a1_3 : Int) (A1_4 : Option Addr) (c1_4 : Nat) (l1_4 : List (S72)) (a1_5 : Int) (a1_6 : Int) (a1_7 : Int) (a1_8 : Int) (a1_9 : Int) (a1_10 : Int) (A1_11 : Option Addr) (c1_11 : Nat) (l1_11 : List Int) (A1_12 : Option Addr) (c1_12 : Nat) (l1_12 : List Bool) (r : ByteArray) (w : World) (hr0_2 : Kd.C Kd.string w A0_2 l0_2.length l0_2) (hc0_2 : l0_2.length ≤ c0_2) (hr0_3 : Kd.C k42 w A0_3 l0_3.length l0_3) (hc0_3 : l0_3.length ≤ c0_3) (hr1_4 : Kd.C k72 w A1_4 l1_4.length l1_4) (hc1_4 : l1_4.length ≤ c1_4) (hr1_11 : Kd.C (Kd.int .u8) w A1_11 l1_11.length l1_11) (hc1_11 : l1_11.length ≤ c1_11) (hr1_12 : Kd.C Kd.bool w A1_12 l1_12.length l1_12) (hc1_12 : l1_12.length ≤ c1_12) (h2 : a2 = 107) (h : octet_Decimal.f (IntKind.u64.wrap a1_6) = some r) (hT : Aside0 (Lib.Utf8Tabs 0 1 w)) :
    Calls Tryd.prog 37 #[.agg #[.int .i64 a0_0, .int .i64 a0_1, .slice A0_2 l0_2.length c0_2, .slice A0_3 l0_3.length c0_3], .agg #[.int .i64 a1_0, .int .i64 a1_1, .int .i64 a1_2, .int .i64 a1_3, .slice A1_4 l1_4.length c1_4, .int .u32 a1_5, .int .u32 a1_6, .int .u32 a1_7, .int .u64 a1_8, .int .u64 a1_9, .int .i64 a1_10, .slice A1_11 l1_11.length c1_11, .slice A1_12 l1_12.length c1_12], .int .i32 a2] w fun e w' => e = .returned (.string r) ∧ Below w.heap.size w w' := by
  subst h2
  have cq := Lib.hid (fun w => octet_Decimal.calls (IntKind.u64.wrap a1_6) r w h)
  clear h hr0_2 hr0_3 hc0_3 hr1_4 hc1_4 hr1_11 hc1_11 hr1_12 hc1_12
  have HP0 : Aside0 (((w.alloc (.cells #[.int .i64 a0_0, .int .i64 a0_1, .slice A0_2 l0_2.length c0_2, .slice A0_3 l0_3.length c0_3] 33)).alloc (.cells #[.int .i64 a1_0, .int .i64 a1_1, .int .i64 a1_2, .int .i64 a1_3, .slice A1_4 l1_4.length c1_4, .int .u32 a1_5, .int .u32 a1_6, .int .u32 a1_7, .int .u64 a1_8, .int .u64 a1_9, .int .i64 a1_10, .slice A1_11 l1_11.length c1_11, .slice A1_12 l1_12.length c1_12] 42)).heap[w.heap.size]? = some (.cells #[.int .i64 a0_0, .int .i64 a0_1, .slice A0_2 l0_2.length c0_2, .slice A0_3 l0_3.length c0_3] 33)) := ⟨knew (heap_alloc_new w _)⟩
  have HA0 : Aside0 (((w.alloc (.cells #[.int .i64 a0_0, .int .i64 a0_1, .slice A0_2 l0_2.length c0_2, .slice A0_3 l0_3.length c0_3] 33)).alloc (.cells #[.int .i64 a1_0, .int .i64 a1_1, .int .i64 a1_2, .int .i64 a1_3, .slice A1_4 l1_4.length c1_4, .int .u32 a1_5, .int .u32 a1_6, .int .u32 a1_7, .int .u64 a1_8, .int .u64 a1_9, .int .i64 a1_10, .slice A1_11 l1_11.length c1_11, .slice A1_12 l1_12.length c1_12] 42)).heap[w.heap.size + 1]? = some (.cells #[.int .i64 a1_0, .int .i64 a1_1, .int .i64 a1_2, .int .i64 a1_3, .slice A1_4 l1_4.length c1_4, .int .u32 a1_5, .int .u32 a1_6, .int .u32 a1_7, .int .u64 a1_8, .int .u64 a1_9, .int .i64 a1_10, .slice A1_11 l1_11.length c1_11, .slice A1_12 l1_12.length c1_12] 42)) := ⟨by have h := heap_alloc_new (w.alloc (.cells #[.int .i64 a0_0, .int .i64 a0_1, .slice A0_2 l0_2.length c0_2, .slice A0_3 l0_3.length c0_3] 33)) (.cells #[.int .i64 a1_0, .int .i64 a1_1, .int .i64 a1_2, .int .i64 a1_3, .slice A1_4 l1_4.length c1_4, .int .u32 a1_5, .int .u32 a1_6, .int .u32 a1_7, .int .u64 a1_8, .int .u64 a1_9, .int .i64 a1_10, .slice A1_11 l1_11.length c1_11, .slice A1_12 l1_12.length c1_12] 42); simpa using h⟩
  have HB := Aside0.mk (((Below.refl w.heap.size w).alloc (Nat.le_refl _) (.cells #[.int .i64 a0_0, .int .i64 a0_1, .slice A0_2 l0_2.length c0_2, .slice A0_3 l0_3.length c0_3] 33)).alloc (by simp) (.cells #[.int .i64 a1_0, .int .i64 a1_1, .int .i64 a1_2, .int .i64 a1_3, .slice A1_4 l1_4.length c1_4, .int .u32 a1_5, .int .u32 a1_6, .int .u32 a1_7, .int .u64 a1_8, .int .u64 a1_9, .int .i64 a1_10, .slice A1_11 l1_11.length c1_11, .slice A1_12 l1_12.length c1_12] 42))
  have qa6 : ((w.alloc (.cells #[.int .i64 a0_0, .int .i64 a0_1, .slice A0_2 l0_2.length c0_2, .slice A0_3 l0_3.length c0_3] 33)).alloc (.cells #[.int .i64 a1_0, .int .i64 a1_1, .int .i64 a1_2, .int .i64 a1_3, .slice A1_4 l1_4.length c1_4, .int .u32 a1_5, .int .u32 a1_6, .int .u32 a1_7, .int .u64 a1_8, .int .u64 a1_9, .int .i64 a1_10, .slice A1_11 l1_11.length c1_11, .slice A1_12 l1_12.length c1_12] 42)).cell? ⟨w.heap.size + 1, 6, none⟩ = some (.int .u32 a1_6) := blk_cell HA0.out 6
  go_enter Tryd.func37, Tryd.ntmps37
  go_wp2_with (first
    | (go_at_call 52
       refine (cq.out _).mono ?_
       rintro e v ⟨rfl, hb⟩)
    | fail)
  go_ret
  exact ⟨rfl, HB.out.trans (hb.mono HB.out.size)⟩
set_option maxHeartbeats 4000000 in
set_option maxRecDepth 100000 in
theorem said_m (a2 : Int) (a0_0 : Int) (a0_1 : Int) (A0_2 : Option Addr) (c0_2 : Nat) (l0_2 : List ByteArray) (A0_3 : Option Addr) (c0_3 : Nat) (l0_3 : List (S42)) (a1_0 : Int) (a1_1 : Int) (a1_2 : Int) (a1_3 : Int) (A1_4 : Option Addr) (c1_4 : Nat) (l1_4 : List (S72)) (a1_5 : Int) (a1_6 : Int) (a1_7 : Int) (a1_8 : Int) (a1_9 : Int) (a1_10 : Int) (A1_11 : Option Addr) (c1_11 : Nat) (l1_11 : List Int) (A1_12 : Option Addr) (c1_12 : Nat) (l1_12 : List Bool) (r : ByteArray) (w : World) (hr0_2 : Kd.C Kd.string w A0_2 l0_2.length l0_2) (hc0_2 : l0_2.length ≤ c0_2) (hr0_3 : Kd.C k42 w A0_3 l0_3.length l0_3) (hc0_3 : l0_3.length ≤ c0_3) (hr1_4 : Kd.C k72 w A1_4 l1_4.length l1_4) (hc1_4 : l1_4.length ≤ c1_4) (hr1_11 : Kd.C (Kd.int .u8) w A1_11 l1_11.length l1_11) (hc1_11 : l1_11.length ≤ c1_11) (hr1_12 : Kd.C Kd.bool w A1_12 l1_12.length l1_12) (hc1_12 : l1_12.length ≤ c1_12) (h2 : a2 = 109) (h : octet_Quote.f (strOfNums l1_11) = some r) (hT : Aside0 (Lib.Utf8Tabs 0 1 w)) :
    Calls Tryd.prog 37 #[.agg #[.int .i64 a0_0, .int .i64 a0_1, .slice A0_2 l0_2.length c0_2, .slice A0_3 l0_3.length c0_3], .agg #[.int .i64 a1_0, .int .i64 a1_1, .int .i64 a1_2, .int .i64 a1_3, .slice A1_4 l1_4.length c1_4, .int .u32 a1_5, .int .u32 a1_6, .int .u32 a1_7, .int .u64 a1_8, .int .u64 a1_9, .int .i64 a1_10, .slice A1_11 l1_11.length c1_11, .slice A1_12 l1_12.length c1_12], .int .i32 a2] w fun e w' => e = .returned (.string r) ∧ Below w.heap.size w w' := by
  subst h2
  have cq := Lib.hid (fun w hT => octet_Quote.calls (strOfNums l1_11) r w h hT)
  have HP0 : Aside0 (((w.alloc (.cells #[.int .i64 a0_0, .int .i64 a0_1, .slice A0_2 l0_2.length c0_2, .slice A0_3 l0_3.length c0_3] 33)).alloc (.cells #[.int .i64 a1_0, .int .i64 a1_1, .int .i64 a1_2, .int .i64 a1_3, .slice A1_4 l1_4.length c1_4, .int .u32 a1_5, .int .u32 a1_6, .int .u32 a1_7, .int .u64 a1_8, .int .u64 a1_9, .int .i64 a1_10, .slice A1_11 l1_11.length c1_11, .slice A1_12 l1_12.length c1_12] 42)).heap[w.heap.size]? = some (.cells #[.int .i64 a0_0, .int .i64 a0_1, .slice A0_2 l0_2.length c0_2, .slice A0_3 l0_3.length c0_3] 33)) := ⟨knew (heap_alloc_new w _)⟩
  have HA0 : Aside0 (((w.alloc (.cells #[.int .i64 a0_0, .int .i64 a0_1, .slice A0_2 l0_2.length c0_2, .slice A0_3 l0_3.length c0_3] 33)).alloc (.cells #[.int .i64 a1_0, .int .i64 a1_1, .int .i64 a1_2, .int .i64 a1_3, .slice A1_4 l1_4.length c1_4, .int .u32 a1_5, .int .u32 a1_6, .int .u32 a1_7, .int .u64 a1_8, .int .u64 a1_9, .int .i64 a1_10, .slice A1_11 l1_11.length c1_11, .slice A1_12 l1_12.length c1_12] 42)).heap[w.heap.size + 1]? = some (.cells #[.int .i64 a1_0, .int .i64 a1_1, .int .i64 a1_2, .int .i64 a1_3, .slice A1_4 l1_4.length c1_4, .int .u32 a1_5, .int .u32 a1_6, .int .u32 a1_7, .int .u64 a1_8, .int .u64 a1_9, .int .i64 a1_10, .slice A1_11 l1_11.length c1_11, .slice A1_12 l1_12.length c1_12] 42)) := ⟨by have h := heap_alloc_new (w.alloc (.cells #[.int .i64 a0_0, .int .i64 a0_1, .slice A0_2 l0_2.length c0_2, .slice A0_3 l0_3.length c0_3] 33)) (.cells #[.int .i64 a1_0, .int .i64 a1_1, .int .i64 a1_2, .int .i64 a1_3, .slice A1_4 l1_4.length c1_4, .int .u32 a1_5, .int .u32 a1_6, .int .u32 a1_7, .int .u64 a1_8, .int .u64 a1_9, .int .i64 a1_10, .slice A1_11 l1_11.length c1_11, .slice A1_12 l1_12.length c1_12] 42); simpa using h⟩
  have HB := Aside0.mk (((Below.refl w.heap.size w).alloc (Nat.le_refl _) (.cells #[.int .i64 a0_0, .int .i64 a0_1, .slice A0_2 l0_2.length c0_2, .slice A0_3 l0_3.length c0_3] 33)).alloc (by simp) (.cells #[.int .i64 a1_0, .int .i64 a1_1, .int .i64 a1_2, .int .i64 a1_3, .slice A1_4 l1_4.length c1_4, .int .u32 a1_5, .int .u32 a1_6, .int .u32 a1_7, .int .u64 a1_8, .int .u64 a1_9, .int .i64 a1_10, .slice A1_11 l1_11.length c1_11, .slice A1_12 l1_12.length c1_12] 42))
  have hcv := Kd.C_string (P := Tryd.prog) (A := A1_11) (c := c1_11) Tryd.underlying39 Tryd.underlying5 Tryd.underlying9 (Kd.C_below hr1_11 HB.out)
  clear h hr0_2 hr0_3 hc0_3 hr1_4 hc1_4 hr1_11 hc1_11 hr1_12 hc1_12
  have qa11 : ((w.alloc (.cells #[.int .i64 a0_0, .int .i64 a0_1, .slice A0_2 l0_2.length c0_2, .slice A0_3 l0_3.length c0_3] 33)).alloc (.cells #[.int .i64 a1_0, .int .i64 a1_1, .int .i64 a1_2, .int .i64 a1_3, .slice A1_4 l1_4.length c1_4, .int .u32 a1_5, .int .u32 a1_6, .int .u32 a1_7, .int .u64 a1_8, .int .u64 a1_9, .int .i64 a1_10, .slice A1_11 l1_11.length c1_11, .slice A1_12 l1_12.length c1_12] 42)).cell? ⟨w.heap.size + 1, 11, none⟩ = some (.slice A1_11 l1_11.length c1_11) := blk_cell HA0.out 11
  go_enter Tryd.func37, Tryd.ntmps37
  go_wp2_with (first
    | (go_at_call 51
       refine (cq.out _ (tabs_at hT HB.out)).mono ?_
       rintro e v ⟨rfl, hb⟩)
    | fail)
  go_ret
  exact ⟨rfl, HB.out.trans (hb.mono HB.out.size)⟩
set_option maxHeartbeats 4000000 in
set_option maxRecDepth 100000 in
theorem said_p (a2 : Int) (a0_0 : Int) (a0_1 : Int) (A0_2 : Option Addr) (c0_2 : Nat) (l0_2 : List ByteArray) (A0_3 : Option Addr) (c0_3 : Nat) (l0_3 : List (S42)) (a1_0 : Int) (a1_1 : Int) (a1_2 : Int) (a1_3 : Int) (A1_4 : Option Addr) (c1_4 : Nat) (l1_4 : List (S72)) (a1_5 : Int) (a1_6 : Int) (a1_7 : Int) (a1_8 : Int) (a1_9 : Int) (a1_10 : Int) (A1_11 : Option Addr) (c1_11 : Nat) (l1_11 : List Int) (A1_12 : Option Addr) (c1_12 : Nat) (l1_12 : List Bool) (r : ByteArray) (w : World) (hr0_2 : Kd.C Kd.string w A0_2 l0_2.length l0_2) (hc0_2 : l0_2.length ≤ c0_2) (hr0_3 : Kd.C k42 w A0_3 l0_3.length l0_3) (hc0_3 : l0_3.length ≤ c0_3) (hr1_4 : Kd.C k72 w A1_4 l1_4.length l1_4) (hc1_4 : l1_4.length ≤ c1_4) (hr1_11 : Kd.C (Kd.int .u8) w A1_11 l1_11.length l1_11) (hc1_11 : l1_11.length ≤ c1_11) (hr1_12 : Kd.C Kd.bool w A1_12 l1_12.length l1_12) (hc1_12 : l1_12.length ≤ c1_12) (h2 : a2 = 112) (h : script_picked.f l1_12 = some r) (hT : Aside0 (Lib.Utf8Tabs 0 1 w)) :
    Calls Tryd.prog 37 #[.agg #[.int .i64 a0_0, .int .i64 a0_1, .slice A0_2 l0_2.length c0_2, .slice A0_3 l0_3.length c0_3], .agg #[.int .i64 a1_0, .int .i64 a1_1, .int .i64 a1_2, .int .i64 a1_3, .slice A1_4 l1_4.length c1_4, .int .u32 a1_5, .int .u32 a1_6, .int .u32 a1_7, .int .u64 a1_8, .int .u64 a1_9, .int .i64 a1_10, .slice A1_11 l1_11.length c1_11, .slice A1_12 l1_12.length c1_12], .int .i32 a2] w fun e w' => e = .returned (.string r) ∧ Below w.heap.size w w' := by
  subst h2
  have HP0 : Aside0 (((w.alloc (.cells #[.int .i64 a0_0, .int .i64 a0_1, .slice A0_2 l0_2.length c0_2, .slice A0_3 l0_3.length c0_3] 33)).alloc (.cells #[.int .i64 a1_0, .int .i64 a1_1, .int .i64 a1_2, .int .i64 a1_3, .slice A1_4 l1_4.length c1_4, .int .u32 a1_5, .int .u32 a1_6, .int .u32 a1_7, .int .u64 a1_8, .int .u64 a1_9, .int .i64 a1_10, .slice A1_11 l1_11.length c1_11, .slice A1_12 l1_12.length c1_12] 42)).heap[w.heap.size]? = some (.cells #[.int .i64 a0_0, .int .i64 a0_1, .slice A0_2 l0_2.length c0_2, .slice A0_3 l0_3.length c0_3] 33)) := ⟨knew (heap_alloc_new w _)⟩
  have HA0 : Aside0 (((w.alloc (.cells #[.int .i64 a0_0, .int .i64 a0_1, .slice A0_2 l0_2.length c0_2, .slice A0_3 l0_3.length c0_3] 33)).alloc (.cells #[.int .i64 a1_0, .int .i64 a1_1, .int .i64 a1_2, .int .i64 a1_3, .slice A1_4 l1_4.length c1_4, .int .u32 a1_5, .int .u32 a1_6, .int .u32 a1_7, .int .u64 a1_8, .int .u64 a1_9, .int .i64 a1_10, .slice A1_11 l1_11.length c1_11, .slice A1_12 l1_12.length c1_12] 42)).heap[w.heap.size + 1]? = some (.cells #[.int .i64 a1_0, .int .i64 a1_1, .int .i64 a1_2, .int .i64 a1_3, .slice A1_4 l1_4.length c1_4, .int .u32 a1_5, .int .u32 a1_6, .int .u32 a1_7, .int .u64 a1_8, .int .u64 a1_9, .int .i64 a1_10, .slice A1_11 l1_11.length c1_11, .slice A1_12 l1_12.length c1_12] 42)) := ⟨by have h := heap_alloc_new (w.alloc (.cells #[.int .i64 a0_0, .int .i64 a0_1, .slice A0_2 l0_2.length c0_2, .slice A0_3 l0_3.length c0_3] 33)) (.cells #[.int .i64 a1_0, .int .i64 a1_1, .int .i64 a1_2, .int .i64 a1_3, .slice A1_4 l1_4.length c1_4, .int .u32 a1_5, .int .u32 a1_6, .int .u32 a1_7, .int .u64 a1_8, .int .u64 a1_9, .int .i64 a1_10, .slice A1_11 l1_11.length c1_11, .slice A1_12 l1_12.length c1_12] 42); simpa using h⟩
  have HB := Aside0.mk (((Below.refl w.heap.size w).alloc (Nat.le_refl _) (.cells #[.int .i64 a0_0, .int .i64 a0_1, .slice A0_2 l0_2.length c0_2, .slice A0_3 l0_3.length c0_3] 33)).alloc (by simp) (.cells #[.int .i64 a1_0, .int .i64 a1_1, .int .i64 a1_2, .int .i64 a1_3, .slice A1_4 l1_4.length c1_4, .int .u32 a1_5, .int .u32 a1_6, .int .u32 a1_7, .int .u64 a1_8, .int .u64 a1_9, .int .i64 a1_10, .slice A1_11 l1_11.length c1_11, .slice A1_12 l1_12.length c1_12] 42))
  have cq := Lib.hid (script_picked.calls A1_12 c1_12 l1_12 r _ (Kd.C_below hr1_12 HB.out) hc1_12 h)
  clear h hr0_2 hr0_3 hc0_3 hr1_4 hc1_4 hr1_11 hc1_11 hr1_12 hc1_12
  have qa12 : ((w.alloc (.cells #[.int .i64 a0_0, .int .i64 a0_1, .slice A0_2 l0_2.length c0_2, .slice A0_3 l0_3.length c0_3] 33)).alloc (.cells #[.int .i64 a1_0, .int .i64 a1_1, .int .i64 a1_2, .int .i64 a1_3, .slice A1_4 l1_4.length c1_4, .int .u32 a1_5, .int .u32 a1_6, .int .u32 a1_7, .int .u64 a1_8, .int .u64 a1_9, .int .i64 a1_10, .slice A1_11 l1_11.length c1_11, .slice A1_12 l1_12.length c1_12] 42)).cell? ⟨w.heap.size + 1, 12, none⟩ = some (.slice A1_12 l1_12.length c1_12) := blk_cell HA0.out 12
  go_enter Tryd.func37, Tryd.ntmps37
  go_wp2_with (first
    | (go_at_call 56
       refine cq.out.mono ?_
       rintro e v ⟨rfl, hb⟩)
    | fail)
  go_ret
  exact ⟨rfl, HB.out.trans (hb.mono HB.out.size)⟩
def script_said.f (k : Nat) (a0_0 : Int) (a0_1 : Int) (l0_2 : List ByteArray) (l0_3 : List (S42)) (a1_0 : Int) (a1_1 : Int) (a1_2 : Int) (a1_3 : Int) (l1_4 : List (S72)) (a1_5 : Int) (a1_6 : Int) (a1_7 : Int) (a1_8 : Int) (a1_9 : Int) (a1_10 : Int) (l1_11 : List Int) (l1_12 : List Bool) (a2 : Int) : Option ByteArray :=
  if a2 = 100 then (if 0 ≤ a1_1 ∧ a1_1 < (l0_2.length : Int) then octet_Quote.f (rdOf ByteArray.empty l0_2 a1_1) else none)
  else if a2 = 107 then octet_Decimal.f (IntKind.u64.wrap a1_6) else if a2 = 109 then octet_Quote.f (strOfNums l1_11) else if a2 = 112 then script_picked.f l1_12 else none
theorem script_said.calls (k : Nat) (a0_0 : Int) (a0_1 : Int) (A0_2 : Option Addr) (c0_2 : Nat) (l0_2 : List ByteArray) (A0_3 : Option Addr) (c0_3 : Nat) (l0_3 : List (S42)) (a1_0 : Int) (a1_1 : Int) (a1_2 : Int) (a1_3 : Int) (A1_4 : Option Addr) (c1_4 : Nat) (l1_4 : List (S72)) (a1_5 : Int) (a1_6 : Int) (a1_7 : Int) (a1_8 : Int) (a1_9 : Int) (a1_10 : Int) (A1_11 : Option Addr) (c1_11 : Nat) (l1_11 : List Int) (A1_12 : Option Addr) (c1_12 : Nat) (l1_12 : List Bool) (a2 : Int) (r : ByteArray) (w : World) (hr0_2 : Kd.C Kd.string w A0_2 l0_2.length l0_2) (hc0_2 : l0_2.length ≤ c0_2) (hr0_3 : Kd.C k42 w A0_3 l0_3.length l0_3) (hc0_3 : l0_3.length ≤ c0_3) (hr1_4 : Kd.C k72 w A1_4 l1_4.length l1_4) (hc1_4 : l1_4.length ≤ c1_4) (hr1_11 : Kd.C (Kd.int .u8) w A1_11 l1_11.length l1_11) (hc1_11 : l1_11.length ≤ c1_11) (hr1_12 : Kd.C Kd.bool w A1_12 l1_12.length l1_12) (hc1_12 : l1_12.length ≤ c1_12) (h : script_said.f k a0_0 a0_1 l0_2 l0_3 a1_0 a1_1 a1_2 a1_3 l1_4 a1_5 a1_6 a1_7 a1_8 a1_9 a1_10 l1_11 l1_12 a2 = some r) (hT : Aside0 (Lib.Utf8Tabs 0 1 w) := by exact tabs_at HT (by repeat (first | (with_reducible first | exact HB.out | apply below_alloc | apply pw_below_drewN | apply below_drew1) | exact HB.out))) :
    Calls Tryd.prog 37 #[.agg #[.int .i64 a0_0, .int .i64 a0_1, .slice A0_2 l0_2.length c0_2, .slice A0_3 l0_3.length c0_3], .agg #[.int .i64 a1_0, .int .i64 a1_1, .int .i64 a1_2, .int .i64 a1_3, .slice A1_4 l1_4.length c1_4, .int .u32 a1_5, .int .u32 a1_6, .int .u32 a1_7, .int .u64 a1_8, .int .u64 a1_9, .int .i64 a1_10, .slice A1_11 l1_11.length c1_11, .slice A1_12 l1_12.length c1_12], .int .i32 a2] w fun e w' => e = .returned (.string r) ∧ Below w.heap.size w w' := by
  unfold script_said.f at h
  by_cases h1 : a2 = 100
  · rw [if_pos h1] at h
    by_cases h0 : 0 ≤ a1_1 ∧ a1_1 < (l0_2.length : Int)
    · rw [if_pos h0] at h
      exact said_d a2 a0_0 a0_1 A0_2 c0_2 l0_2 A0_3 c0_3 l0_3 a1_0 a1_1 a1_2 a1_3 A1_4 c1_4 l1_4 a1_5 a1_6 a1_7 a1_8 a1_9 a1_10 A1_11 c1_11 l1_11 A1_12 c1_12 l1_12 r w hr0_2 hc0_2 hr0_3 hc0_3 hr1_4 hc1_4 hr1_11 hc1_11 hr1_12 hc1_12 h1 ⟨h0.1, h0.2, h⟩ hT
    · rw [if_neg h0] at h; cases h
  rw [if_neg h1] at h
  by_cases h2 : a2 = 107
  · rw [if_pos h2] at h
    exact said_k a2 a0_0 a0_1 A0_2 c0_2 l0_2 A0_3 c0_3 l0_3 a1_0 a1_1 a1_2 a1_3 A1_4 c1_4 l1_4 a1_5 a1_6 a1_7 a1_8 a1_9 a1_10 A1_11 c1_11 l1_11 A1_12 c1_12 l1_12 r w hr0_2 hc0_2 hr0_3 hc0_3 hr1_4 hc1_4 hr1_11 hc1_11 hr1_12 hc1_12 h2 h hT
  rw [if_neg h2] at h
  by_cases h3 : a2 = 109
  · rw [if_pos h3] at h
    exact said_m a2 a0_0 a0_1 A0_2 c0_2 l0_2 A0_3 c0_3 l0_3 a1_0 a1_1 a1_2 a1_3 A1_4 c1_4 l1_4 a1_5 a1_6 a1_7 a1_8 a1_9 a1_10 A1_11 c1_11 l1_11 A1_12 c1_12 l1_12 r w hr0_2 hc0_2 hr0_3 hc0_3 hr1_4 hc1_4 hr1_11 hc1_11 hr1_12 hc1_12 h3 h hT
  rw [if_neg h3] at h
  by_cases h4 : a2 = 112
  · rw [if_pos h4] at h
    exact said_p a2 a0_0 a0_1 A0_2 c0_2 l0_2 A0_3 c0_3 l0_3 a1_0 a1_1 a1_2 a1_3 A1_4 c1_4 l1_4 a1_5 a1_6 a1_7 a1_8 a1_9 a1_10 A1_11 c1_11 l1_11 A1_12 c1_12 l1_12 r w hr0_2 hc0_2 hr0_3 hc0_3 hr1_4 hc1_4 hr1_11 hc1_11 hr1_12 hc1_12 h4 h hT
  rw [if_neg h4] at h; cases h
end Go.Proofs.YtpdinahdcedmkaaDoor.ExtQ
/- script.line: an act's name, and what it has of each of its letters. -/
namespace Go.Proofs.YtpdinahdcedmkaaDoor.ExtQ
open Go.Proofs.YtpdinahdcedmkaaDoor.Ext
open Go.Proofs.YtpdinahdcedmkaaDoor.Q
set_option linter.unusedVariables false
set_option linter.unusedSimpArgs false
open Go.RowKit Go.Proofs.YtpdinahdcedmkaaDoorW.PrintLast Go.Proofs.YtpdinahdcedmkaaDoorW.PrintMore
open Go.Proofs.YtpdinahdcedmkaaDoorW.PrintWords hiding blk_cell blk_set nums_append

def lineGo (sd : Int → Option ByteArray) : List UInt8 → ByteArray → Option ByteArray
  | [], acc => some acc
  | c :: t, acc => (sd (c.toNat : Int)).bind fun x => if x.size ≤ 1099511627776 ∧ acc.size ≤ 1099511627776 then lineGo sd t (acc ++ (⟨#[32]⟩ ++ x)) else none
theorem rowOf_ascii (d : Int) (i : Nat) (h : i < (rowOf d).2.size) : ((rowOf d).2[i]'h).toNat < 128 := by
  have key : ∀ n : Fin 18, ∀ i : Fin 8, i.val < (rowOf ((n.val : Nat) : Int)).2.size → ((rowOf ((n.val : Nat) : Int)).2.data.toList.getD i.val 0).toNat < 128 := by decide +kernel
  have hsz : ∀ n : Fin 18, (rowOf ((n.val : Nat) : Int)).2.size ≤ 8 := by decide +kernel
  have e : ∀ (s : ByteArray) (h : i < s.size), s[i]'h = s.data.toList.getD i 0 := fun s h => by
    rw [List.getD_eq_getElem?_getD, List.getElem?_eq_getElem (by rw [Array.length_toList]; exact h)]; rfl
  rw [e]
  by_cases hd : 0 ≤ d ∧ d < 18
  · obtain ⟨n, rfl⟩ := Int.eq_ofNat_of_zero_le hd.1
    have hn : n < 18 := by omega
    have := hsz ⟨n, hn⟩
    exact key ⟨n, hn⟩ ⟨i, by simp only at this; omega⟩ h
  · exfalso
    unfold rowOf at h
    rw [if_neg hd] at h
    exact absurd h (by simp [ByteArray.size])
theorem rowOf_drop (s : ByteArray) (pos : Nat) (h : pos < s.size) : s.data.toList.drop pos = s[pos] :: s.data.toList.drop (pos + 1) := by
  rw [List.drop_eq_getElem_cons (by rw [Array.length_toList]; exact h)]
  rfl
theorem rowOf_sizes (d : Int) : (rowOf d).2.size ≤ 8 ∧ (rowOf d).1.size ≤ 20 := by
  have hsz : ∀ n : Fin 18, (rowOf ((n.val : Nat) : Int)).2.size ≤ 8 ∧ (rowOf ((n.val : Nat) : Int)).1.size ≤ 20 := by decide +kernel
  by_cases hd : 0 ≤ d ∧ d < 18
  · obtain ⟨n, rfl⟩ := Int.eq_ofNat_of_zero_le hd.1
    exact hsz ⟨n, by omega⟩
  · unfold rowOf; rw [if_neg hd]; decide
def script_line.f (k : Nat) (a0_0 : Int) (a0_1 : Int) (l0_2 : List ByteArray) (l0_3 : List (S42)) (a1_0 : Int) (a1_1 : Int) (a1_2 : Int) (a1_3 : Int) (l1_4 : List (S72)) (a1_5 : Int) (a1_6 : Int) (a1_7 : Int) (a1_8 : Int) (a1_9 : Int) (a1_10 : Int) (l1_11 : List Int) (l1_12 : List Bool) : Option ByteArray := lineGo (fun c => script_said.f k a0_0 a0_1 l0_2 l0_3 a1_0 a1_1 a1_2 a1_3 l1_4 a1_5 a1_6 a1_7 a1_8 a1_9 a1_10 l1_11 l1_12 c) (rowOf a1_0).2.data.toList (rowOf a1_0).1
set_option maxHeartbeats 4000000 in
set_option maxRecDepth 100000 in
theorem script_line.calls (k : Nat) (a0_0 : Int) (a0_1 : Int) (A0_2 : Option Addr) (c0_2 : Nat) (l0_2 : List ByteArray) (A0_3 : Option Addr) (c0_3 : Nat) (l0_3 : List (S42)) (a1_0 : Int) (a1_1 : Int) (a1_2 : Int) (a1_3 : Int) (A1_4 : Option Addr) (c1_4 : Nat) (l1_4 : List (S72)) (a1_5 : Int) (a1_6 : Int) (a1_7 : Int) (a1_8 : Int) (a1_9 : Int) (a1_10 : Int) (A1_11 : Option Addr) (c1_11 : Nat) (l1_11 : List Int) (A1_12 : Option Addr) (c1_12 : Nat) (l1_12 : List Bool) (r : ByteArray) (w : World) (hr0_2 : Kd.C Kd.string w A0_2 l0_2.length l0_2) (hc0_2 : l0_2.length ≤ c0_2) (hr0_3 : Kd.C k42 w A0_3 l0_3.length l0_3) (hc0_3 : l0_3.length ≤ c0_3) (hr1_4 : Kd.C k72 w A1_4 l1_4.length l1_4) (hc1_4 : l1_4.length ≤ c1_4) (hr1_11 : Kd.C (Kd.int .u8) w A1_11 l1_11.length l1_11) (hc1_11 : l1_11.length ≤ c1_11) (hr1_12 : Kd.C Kd.bool w A1_12 l1_12.length l1_12) (hc1_12 : l1_12.length ≤ c1_12) (h : script_line.f k a0_0 a0_1 l0_2 l0_3 a1_0 a1_1 a1_2 a1_3 l1_4 a1_5 a1_6 a1_7 a1_8 a1_9 a1_10 l1_11 l1_12 = some r) (hT : Aside0 (Lib.Utf8Tabs 0 1 w) := by exact tabs_at HT (by repeat (first | (with_reducible first | exact HB.out | apply below_alloc | apply pw_below_drewN | apply below_drew1) | exact HB.out))) :
    Calls Tryd.prog 25 #[.agg #[.int .i64 a0_0, .int .i64 a0_1, .slice A0_2 l0_2.length c0_2, .slice A0_3 l0_3.length c0_3], .agg #[.int .i64 a1_0, .int .i64 a1_1, .int .i64 a1_2, .int .i64 a1_3, .slice A1_4 l1_4.length c1_4, .int .u32 a1_5, .int .u32 a1_6, .int .u32 a1_7, .int .u64 a1_8, .int .u64 a1_9, .int .i64 a1_10, .slice A1_11 l1_11.length c1_11, .slice A1_12 l1_12.length c1_12]] w fun e w' => e = .returned (.string r) ∧ Below w.heap.size w w' := by
  have HR0_2 := Aside0.mk hr0_2
  have HC0_2 := Aside0.mk hc0_2
  have HR0_3 := Aside0.mk hr0_3
  have HC0_3 := Aside0.mk hc0_3
  have HR1_4 := Aside0.mk hr1_4
  have HC1_4 := Aside0.mk hc1_4
  have HR1_11 := Aside0.mk hr1_11
  have HC1_11 := Aside0.mk hc1_11
  have HR1_12 := Aside0.mk hr1_12
  have HC1_12 := Aside0.mk hc1_12
  clear hr0_2 hc0_2 hr0_3 hc0_3 hr1_4 hc1_4 hr1_11 hc1_11 hr1_12 hc1_12
  have HT := hT
  clear hT
  have ca := Lib.hid (rowOf_ascii a1_0)
  have cz := Lib.hid (rowOf_sizes a1_0)
  have cn := Lib.hid (c_SName a1_0)
  have ch := Lib.hid (c_Has a1_0)
  have HF := Aside0.mk (show lineGo (fun c => script_said.f k a0_0 a0_1 l0_2 l0_3 a1_0 a1_1 a1_2 a1_3 l1_4 a1_5 a1_6 a1_7 a1_8 a1_9 a1_10 l1_11 l1_12 c) (rowOf a1_0).2.data.toList (rowOf a1_0).1 = some r from h)
  clear h
  generalize (rowOf a1_0).1 = nm at *
  generalize (rowOf a1_0).2 = hs at *
  go_enter Tryd.func25, Tryd.ntmps25
  have HP0 : Aside0 (((w.alloc (.cells #[.int .i64 a0_0, .int .i64 a0_1, .slice A0_2 l0_2.length c0_2, .slice A0_3 l0_3.length c0_3] 33)).alloc (.cells #[.int .i64 a1_0, .int .i64 a1_1, .int .i64 a1_2, .int .i64 a1_3, .slice A1_4 l1_4.length c1_4, .int .u32 a1_5, .int .u32 a1_6, .int .u32 a1_7, .int .u64 a1_8, .int .u64 a1_9, .int .i64 a1_10, .slice A1_11 l1_11.length c1_11, .slice A1_12 l1_12.length c1_12] 42)).heap[w.heap.size]? = some (.cells #[.int .i64 a0_0, .int .i64 a0_1, .slice A0_2 l0_2.length c0_2, .slice A0_3 l0_3.length c0_3] 33)) := ⟨knew (heap_alloc_new w _)⟩
  have HA0 : Aside0 (((w.alloc (.cells #[.int .i64 a0_0, .int .i64 a0_1, .slice A0_2 l0_2.length c0_2, .slice A0_3 l0_3.length c0_3] 33)).alloc (.cells #[.int .i64 a1_0, .int .i64 a1_1, .int .i64 a1_2, .int .i64 a1_3, .slice A1_4 l1_4.length c1_4, .int .u32 a1_5, .int .u32 a1_6, .int .u32 a1_7, .int .u64 a1_8, .int .u64 a1_9, .int .i64 a1_10, .slice A1_11 l1_11.length c1_11, .slice A1_12 l1_12.length c1_12] 42)).heap[w.heap.size + 1]? = some (.cells #[.int .i64 a1_0, .int .i64 a1_1, .int .i64 a1_2, .int .i64 a1_3, .slice A1_4 l1_4.length c1_4, .int .u32 a1_5, .int .u32 a1_6, .int .u32 a1_7, .int .u64 a1_8, .int .u64 a1_9, .int .i64 a1_10, .slice A1_11 l1_11.length c1_11, .slice A1_12 l1_12.length c1_12] 42)) := ⟨by have h := heap_alloc_new (w.alloc (.cells #[.int .i64 a0_0, .int .i64 a0_1, .slice A0_2 l0_2.length c0_2, .slice A0_3 l0_3.length c0_3] 33)) (.cells #[.int .i64 a1_0, .int .i64 a1_1, .int .i64 a1_2, .int .i64 a1_3, .slice A1_4 l1_4.length c1_4, .int .u32 a1_5, .int .u32 a1_6, .int .u32 a1_7, .int .u64 a1_8, .int .u64 a1_9, .int .i64 a1_10, .slice A1_11 l1_11.length c1_11, .slice A1_12 l1_12.length c1_12] 42); simpa using h⟩
  have HB0 := Aside0.mk (((Below.refl w.heap.size w).alloc (Nat.le_refl _) (.cells #[.int .i64 a0_0, .int .i64 a0_1, .slice A0_2 l0_2.length c0_2, .slice A0_3 l0_3.length c0_3] 33)).alloc (by simp) (.cells #[.int .i64 a1_0, .int .i64 a1_1, .int .i64 a1_2, .int .i64 a1_3, .slice A1_4 l1_4.length c1_4, .int .u32 a1_5, .int .u32 a1_6, .int .u32 a1_7, .int .u64 a1_8, .int .u64 a1_9, .int .i64 a1_10, .slice A1_11 l1_11.length c1_11, .slice A1_12 l1_12.length c1_12] 42))
  go_wp2_with (first
    | (go_at_call 10
       with_reducible refine (cn.out _).mono ?_
       rintro e v1 ⟨rfl, hbz⟩
       have HP1 := Aside0.mk (krow HP0.out hbz)
       have HA1 := Aside0.mk (krow HA0.out hbz)
       have HB1 := Aside0.mk (HB0.out.trans (hbz.mono HB0.out.size))
       clear hbz
       have q0_v1 : v1.cell? ⟨w.heap.size + 1, 0, none⟩ = some (.int .i64 a1_0) := blk_cell HA1.out 0)
    | (go_at_call 8
       with_reducible refine (ch.out _).mono ?_
       rintro e v2 ⟨rfl, hbz⟩
       have HP2 := Aside0.mk (krow HP1.out hbz)
       have HA2 := Aside0.mk (krow HA1.out hbz)
       have HB2 := Aside0.mk (HB1.out.trans (hbz.mono HB1.out.size))
       clear hbz)
    | fail)
  go_loopw [5] (fun v5 wr => ∃ (pos : Nat) (acc : ByteArray), pos ≤ hs.size ∧ v5 = .string acc ∧ wr.heap[v2.heap.size]? = some (.stringIter hs pos) ∧ Aside0 (lineGo (fun c => script_said.f k a0_0 a0_1 l0_2 l0_3 a1_0 a1_1 a1_2 a1_3 l1_4 a1_5 a1_6 a1_7 a1_8 a1_9 a1_10 l1_11 l1_12 c) (hs.data.toList.drop pos) acc = some r) ∧ Aside0 (wr.heap[w.heap.size]? = some (.cells #[.int .i64 a0_0, .int .i64 a0_1, .slice A0_2 l0_2.length c0_2, .slice A0_3 l0_3.length c0_3] 33)) ∧ Aside0 (wr.heap[w.heap.size + 1]? = some (.cells #[.int .i64 a1_0, .int .i64 a1_1, .int .i64 a1_2, .int .i64 a1_3, .slice A1_4 l1_4.length c1_4, .int .u32 a1_5, .int .u32 a1_6, .int .u32 a1_7, .int .u64 a1_8, .int .u64 a1_9, .int .i64 a1_10, .slice A1_11 l1_11.length c1_11, .slice A1_12 l1_12.length c1_12] 42)) ∧ Aside0 (Below w.heap.size w wr)) (fun _ wr => hs.size - wr.iterPos v2.heap.size)
  case atStart => exact ⟨0, nm, by omega, rfl, iter_new v2 hs, ⟨HF.out⟩, ⟨knew HP2.out⟩, ⟨knew HA2.out⟩, ⟨HB2.out.alloc HB2.out.size _⟩⟩
  case round =>
    obtain ⟨pos, acc, hpl, rfl, hit, HG, HP, HA, HB⟩ := hrel
    by_cases hp : pos < hs.size
    · have hnx := fun ty => Lib.run_next_ascii_at (P := Tryd.prog) wr v2.heap.size hs pos ty hit hp (ca.out pos hp)
      have HG1 := HG.out
      rw [rowOf_drop hs pos hp] at HG1
      simp only [lineGo] at HG1
      obtain ⟨x, HS, HG2⟩ := Option.bind_eq_some_iff.1 HG1
      by_cases hsz : x.size ≤ 1099511627776 ∧ acc.size ≤ 1099511627776
      · rw [if_pos hsz] at HG2
        have HSS := Aside0.mk HS
        have HGG := Aside0.mk HG2
        have f1 : 1 + x.size ≤ 9223372036854775807 := by omega
        have f2 : acc.size + (⟨#[32]⟩ ++ x : ByteArray).size ≤ 9223372036854775807 := by rw [ByteArray.size_append]; show _ + (1 + _) ≤ _; omega
        have HI := Aside0.mk (Lib.iterAt_heap wr v2.heap.size hs pos (pos + 1) hit)
        have HBI := Aside0.mk (Lib.below_iterAt HB.out (show w.heap.size ≤ v2.heap.size from HB2.out.size) hs (pos + 1))
        have hne1 : w.heap.size ≠ v2.heap.size := by have := (Array.getElem?_eq_some_iff.1 HP2.out).1; omega
        have hne2 : w.heap.size + 1 ≠ v2.heap.size := by have := (Array.getElem?_eq_some_iff.1 HA2.out).1; omega
        have HPI := Aside0.mk ((Lib.iterAt_other wr v2.heap.size w.heap.size hs (pos + 1) hne1).trans HP.out)
        have HAI := Aside0.mk ((Lib.iterAt_other wr v2.heap.size (w.heap.size + 1) hs (pos + 1) hne2).trans HA.out)
        generalize hs[pos] = c at *
        have HMM : Aside0 (hs.size - (pos + 1) < hs.size - wr.iterPos v2.heap.size) := ⟨by rw [iterPos_of hit]; omega⟩
        clear hsz HG HG1 HG2 HS hne1 hne2 HP HA HB HP0 HA0 HB0 HP1 HA1 HB1 HP2 HA2
        generalize wr.iterAt v2.heap.size hs (pos + 1) = wi at *
        have p0_wi : wi.cell? ⟨w.heap.size, 0, none⟩ = some (.int .i64 a0_0) := blk_cell HPI.out 0
        have p1_wi : wi.cell? ⟨w.heap.size, 1, none⟩ = some (.int .i64 a0_1) := blk_cell HPI.out 1
        have p2_wi : wi.cell? ⟨w.heap.size, 2, none⟩ = some (.slice A0_2 l0_2.length c0_2) := blk_cell HPI.out 2
        have p3_wi : wi.cell? ⟨w.heap.size, 3, none⟩ = some (.slice A0_3 l0_3.length c0_3) := blk_cell HPI.out 3
        have q0_wi : wi.cell? ⟨w.heap.size + 1, 0, none⟩ = some (.int .i64 a1_0) := blk_cell HAI.out 0
        have q1_wi : wi.cell? ⟨w.heap.size + 1, 1, none⟩ = some (.int .i64 a1_1) := blk_cell HAI.out 1
        have q2_wi : wi.cell? ⟨w.heap.size + 1, 2, none⟩ = some (.int .i64 a1_2) := blk_cell HAI.out 2
        have q3_wi : wi.cell? ⟨w.heap.size + 1, 3, none⟩ = some (.int .i64 a1_3) := blk_cell HAI.out 3
        have q4_wi : wi.cell? ⟨w.heap.size + 1, 4, none⟩ = some (.slice A1_4 l1_4.length c1_4) := blk_cell HAI.out 4
        have q5_wi : wi.cell? ⟨w.heap.size + 1, 5, none⟩ = some (.int .u32 a1_5) := blk_cell HAI.out 5
        have q6_wi : wi.cell? ⟨w.heap.size + 1, 6, none⟩ = some (.int .u32 a1_6) := blk_cell HAI.out 6
        have q7_wi : wi.cell? ⟨w.heap.size + 1, 7, none⟩ = some (.int .u32 a1_7) := blk_cell HAI.out 7
        have q8_wi : wi.cell? ⟨w.heap.size + 1, 8, none⟩ = some (.int .u64 a1_8) := blk_cell HAI.out 8
        have q9_wi : wi.cell? ⟨w.heap.size + 1, 9, none⟩ = some (.int .u64 a1_9) := blk_cell HAI.out 9
        have q10_wi : wi.cell? ⟨w.heap.size + 1, 10, none⟩ = some (.int .i64 a1_10) := blk_cell HAI.out 10
        have q11_wi : wi.cell? ⟨w.heap.size + 1, 11, none⟩ = some (.slice A1_11 l1_11.length c1_11) := blk_cell HAI.out 11
        have q12_wi : wi.cell? ⟨w.heap.size + 1, 12, none⟩ = some (.slice A1_12 l1_12.length c1_12) := blk_cell HAI.out 12
        go_wp2_with (first
          | (go_at_call 37
             refine (script_said.calls k a0_0 a0_1 A0_2 c0_2 l0_2 A0_3 c0_3 l0_3 a1_0 a1_1 a1_2 a1_3 A1_4 c1_4 l1_4 a1_5 a1_6 a1_7 a1_8 a1_9 a1_10 A1_11 c1_11 l1_11 A1_12 c1_12 l1_12 (c.toNat : Int) x _ (Kd.C_below HR0_2.out HBI.out) HC0_2.out (Kd.C_below HR0_3.out HBI.out) HC0_3.out (Kd.C_below HR1_4.out HBI.out) HC1_4.out (Kd.C_below HR1_11.out HBI.out) HC1_11.out (Kd.C_below HR1_12.out HBI.out) HC1_12.out HSS.out (tabs_at HT HBI.out)).mono ?_
             rintro e v3 ⟨rfl, hbz⟩
             have HI3 := Aside0.mk ((hbz.block v2.heap.size (Array.getElem?_eq_some_iff.1 HI.out).1).trans HI.out)
             have HP3 := Aside0.mk (krow HPI.out hbz)
             have HA3 := Aside0.mk (krow HAI.out hbz)
             have HB3 := Aside0.mk (HBI.out.trans (hbz.mono HBI.out.size))
             clear hbz)
          | fail)
        go_roundw
        case rel => exact ⟨pos + 1, _, by omega, rfl, HI3.out, HGG, HP3, HA3, HB3⟩
        case measure => rw [iterPos_of HI3.out]; exact HMM.out
      · rw [if_neg hsz] at HG2
        cases HG2
    · have hnx := fun ty => Lib.run_next_end_at (P := Tryd.prog) wr v2.heap.size hs pos ty hit hp
      obtain rfl : acc = r := by
        have := HG.out
        rw [List.drop_of_length_le (by rw [Array.length_toList]; show hs.size ≤ pos; omega)] at this
        exact Option.some.inj this
      clear HG
      go_wp2
      go_ret
      exact ⟨rfl, HB.out⟩
end Go.Proofs.YtpdinahdcedmkaaDoor.ExtQ
/- script.keyed, of acts without sets. -/
namespace Go.Proofs.YtpdinahdcedmkaaDoor.ExtQ
open Go.Proofs.YtpdinahdcedmkaaDoor.Ext
open Go.Proofs.YtpdinahdcedmkaaDoor.Q
set_option linter.unusedVariables false
set_option linter.unusedSimpArgs false
open Go.RowKit Go.Proofs.YtpdinahdcedmkaaDoorW.PrintLast Go.Proofs.YtpdinahdcedmkaaDoorW.PrintMore
open Go.Proofs.YtpdinahdcedmkaaDoorW.PrintWords hiding blk_cell blk_set nums_append

def script_keyed.f (k : Nat) (a0_0 : Int) (a0_1 : Int) (a0_2 : Int) (a0_3 : Int) (l0_4 : List (S72)) (a0_5 : Int) (a0_6 : Int) (a0_7 : Int) (a0_8 : Int) (a0_9 : Int) (a0_10 : Int) (l0_11 : List Int) (l0_12 : List Bool) : Option Bool := if hasS a0_0 115 = true then none else some (decide (a0_3 = 0) && (decide (a0_5 = 0) && decide (l0_4.length = 0)))
set_option maxHeartbeats 4000000 in
set_option maxRecDepth 100000 in
theorem script_keyed.calls (k : Nat) (a0_0 : Int) (a0_1 : Int) (a0_2 : Int) (a0_3 : Int) (A0_4 : Option Addr) (c0_4 : Nat) (l0_4 : List (S72)) (a0_5 : Int) (a0_6 : Int) (a0_7 : Int) (a0_8 : Int) (a0_9 : Int) (a0_10 : Int) (A0_11 : Option Addr) (c0_11 : Nat) (l0_11 : List Int) (A0_12 : Option Addr) (c0_12 : Nat) (l0_12 : List Bool) (r : Bool) (w : World) (hr0_4 : Kd.C k72 w A0_4 l0_4.length l0_4) (hc0_4 : l0_4.length ≤ c0_4) (hr0_11 : Kd.C (Kd.int .u8) w A0_11 l0_11.length l0_11) (hc0_11 : l0_11.length ≤ c0_11) (hr0_12 : Kd.C Kd.bool w A0_12 l0_12.length l0_12) (hc0_12 : l0_12.length ≤ c0_12) (h : script_keyed.f k a0_0 a0_1 a0_2 a0_3 l0_4 a0_5 a0_6 a0_7 a0_8 a0_9 a0_10 l0_11 l0_12 = some r) :
    Calls Tryd.prog 34 #[.agg #[.int .i64 a0_0, .int .i64 a0_1, .int .i64 a0_2, .int .i64 a0_3, .slice A0_4 l0_4.length c0_4, .int .u32 a0_5, .int .u32 a0_6, .int .u32 a0_7, .int .u64 a0_8, .int .u64 a0_9, .int .i64 a0_10, .slice A0_11 l0_11.length c0_11, .slice A0_12 l0_12.length c0_12]] w fun e w' => e = .returned (.bool r) ∧ Below w.heap.size w w' := by
  unfold script_keyed.f at h
  by_cases hs : hasS a0_0 115 = true
  · rw [if_pos hs] at h; cases h
  rw [if_neg hs] at h
  obtain rfl := Option.some.inj h
  have ck := Lib.hid (has_f (Bool.eq_false_iff.2 hs))
  clear hs h hr0_4 hr0_11 hr0_12
  generalize l0_4.length = n4 at *
  generalize l0_11.length = n11 at *
  generalize l0_12.length = n12 at *
  go_enter Tryd.func34, Tryd.ntmps34
  have HR0 := Aside0.mk (heap_alloc_new w (.cells #[.int .i64 a0_0, .int .i64 a0_1, .int .i64 a0_2, .int .i64 a0_3, .slice A0_4 n4 c0_4, .int .u32 a0_5, .int .u32 a0_6, .int .u32 a0_7, .int .u64 a0_8, .int .u64 a0_9, .int .i64 a0_10, .slice A0_11 n11 c0_11, .slice A0_12 n12 c0_12] 42))
  have HB0 := Aside0.mk ((Below.refl w.heap.size w).alloc (Nat.le_refl _) (.cells #[.int .i64 a0_0, .int .i64 a0_1, .int .i64 a0_2, .int .i64 a0_3, .slice A0_4 n4 c0_4, .int .u32 a0_5, .int .u32 a0_6, .int .u32 a0_7, .int .u64 a0_8, .int .u64 a0_9, .int .i64 a0_10, .slice A0_11 n11 c0_11, .slice A0_12 n12 c0_12] 42))
  go_wp2_with (first
    | (go_at_call 46
       with_reducible refine (ck.out _).mono ?_
       rintro e v ⟨rfl, hbz⟩
       have HR1 := Aside0.mk (krow HR0.out hbz)
       have HB1 := Aside0.mk (HB0.out.trans (hbz.mono HB0.out.size))
       clear hbz
       have q0_v : v.cell? ⟨w.heap.size, 0, none⟩ = some (.int .i64 a0_0) := blk_cell HR1.out 0
       have q3_v : v.cell? ⟨w.heap.size, 3, none⟩ = some (.int .i64 a0_3) := blk_cell HR1.out 3
       have q4_v : v.cell? ⟨w.heap.size, 4, none⟩ = some (.slice A0_4 n4 c0_4) := blk_cell HR1.out 4
       have q5_v : v.cell? ⟨w.heap.size, 5, none⟩ = some (.int .u32 a0_5) := blk_cell HR1.out 5)
    | fail)
  all_goals
    go_ret
    refine ⟨ret_bool ?_, HB1.out⟩
    refine Bool.eq_iff_iff.2 ?_
    simp only [Bool.and_eq_true, decide_eq_true_eq, beq_iff_eq, Bool.false_eq_true, false_iff]
    omega
end Go.Proofs.YtpdinahdcedmkaaDoor.ExtQ
