import Derived.Test.YtpdinahdcedmkaaDoorMPut
import Derived.Test.YtpdinahdcedmkaaDoorMSayS
import Derived.Test.YtpdinahdcedmkaaDoorMCod
import Derived.Lib.CutLaws
import Derived.Lib.ConvBytes
/- script.reader.value: what a letter's words say (of all letters but the sets'). -/
namespace Go.Proofs.YtpdinahdcedmkaaDoor.Ext
open Go.Proofs.YtpdinahdcedmkaaDoor.P
set_option linter.unusedVariables false
set_option linter.unusedSimpArgs false
open Go.RowKit Go.Proofs.YtpdinahdcedmkaaDoorW.PrintWords Go.Proofs.YtpdinahdcedmkaaDoorW.PrintLast Go.Proofs.YtpdinahdcedmkaaDoorW.PrintMore Go.Proofs.YtpdinahdcedmkaaDoor.Spec

/-- a slice that holds a list, in a block of its elements' type -/
structure Held {α : Type} (κ : Kd α) (T : TypeId) (b0 : Nat) (W : World) (v : Value) (l : List α) : Prop where mk ::
  (out : ∃ A c, v = .slice A l.length c ∧ l.length ≤ c ∧ Kd.C κ W A l.length l ∧ (0 < l.length → ∃ a, A = some a ∧ b0 ≤ a.block ∧ ∃ cells fr, W.heap[a.block]? = some (.cells cells T fr)))
/-- the kind's values lie in no further memory -/
def Flat {α : Type} (κ : Kd α) : Prop := ∀ w w' p c, κ.K w p c → κ.K w' p c
theorem addr_block (a : Addr) (n : Nat) : (a.add n).block = a.block := by unfold Addr.add; split <;> rfl
theorem C_step {α : Type} {κ : Kd α} (hf : Flat κ) {W W' : World} {a : Addr} {l : List α} (h : Kd.C κ W (some a) l.length l) (hc : ∀ i u, W.cell? (a.add i) = some u → W'.cell? (a.add i) = some u) : Kd.C κ W' (some a) l.length l := by
  refine ⟨rfl, h.2.1, fun hn => ?_⟩
  obtain ⟨b, hb, hx⟩ := h.2.2 hn
  cases hb
  refine ⟨a, rfl, fun j p hj => ?_⟩
  obtain ⟨c, h1, h2, h3⟩ := hx j p hj
  exact ⟨c, h1, hf _ _ _ _ h2, fun i u hu => hc _ _ (h3 i u hu)⟩
theorem Held.step {α : Type} {κ : Kd α} {T : TypeId} {b0 : Nat} {W W' : World} {v : Value} {l : List α} (h : Held κ T b0 W v l) (hf : Flat κ) {row : Option Nat} (hg : W.grownBy W' row) (hrow : ∀ k, row = some k → ∀ cells fr, W.heap[k]? ≠ some (.cells cells T fr)) : Held κ T b0 W' v l := by
  obtain ⟨A, c, h1, h2, h3, h4⟩ := h.out
  by_cases hl : 0 < l.length
  · obtain ⟨a, rfl, hb, cells, fr, hc⟩ := h4 hl
    have hne : some a.block ≠ row := fun e => hrow _ e.symm _ _ hc
    refine ⟨some a, c, h1, h2, C_step hf h3 (fun i u hu => hg.cell hu (by rw [addr_block]; exact hne)), fun _ => ⟨a, rfl, hb, cells, fr, ?_⟩⟩
    exact (hg.block _ (Array.getElem?_eq_some_iff.1 hc).1 hne).trans hc
  · have h0 : l = [] := List.length_eq_zero_iff.1 (by omega)
    subst h0
    exact ⟨A, c, h1, h2, ⟨rfl, h3.2.1, fun h => absurd h (by simp)⟩, fun h => absurd h hl⟩
theorem Held.below {α : Type} {κ : Kd α} {T : TypeId} {b0 : Nat} {W W' : World} {v : Value} {l : List α} (h : Held κ T b0 W v l) (hf : Flat κ) (hb : Below W.heap.size W W') : Held κ T b0 W' v l := h.step hf (grown_of_below hb none) (fun k hk => by cases hk)
theorem Held.lower {α : Type} {κ : Kd α} {T : TypeId} {b0 b1 : Nat} {W : World} {v : Value} {l : List α} (h : Held κ T b0 W v l) (hb : b1 ≤ b0) : Held κ T b1 W v l := by
  obtain ⟨A, c, h1, h2, h3, h4⟩ := h.out
  exact ⟨A, c, h1, h2, h3, fun hl => by obtain ⟨a, e, hb2, x⟩ := h4 hl; exact ⟨a, e, by omega, x⟩⟩
theorem Held.of {α : Type} {κ : Kd α} {T : TypeId} {b0 : Nat} {ok : Nat → Prop} {W : World} {v : Value} {l : List α} (h : Kd.R κ T W b0 ok v l) : Held κ T b0 W v l := by
  obtain ⟨A, c, rfl, hle, hC⟩ := Kd.R_reads h
  refine ⟨A, c, rfl, hle, hC, fun hl => ?_⟩
  obtain ⟨a, rfl, _⟩ := hC.2.2 hl
  obtain ⟨inner, ho, _⟩ := h.2
  rcases ho.2 with ⟨e, _⟩ | ⟨g, cap, cur, hv, hg, hh, _⟩
  · cases e
  · cases hv
    exact ⟨_, rfl, hg, cur, _, hh⟩
theorem Held.nil {α : Type} (κ : Kd α) (T : TypeId) (b0 : Nat) (W : World) : Held κ T b0 W (.slice none 0 0) ([] : List α) := ⟨none, 0, rfl, Nat.le_refl _, Kd.C_nil _ _, fun h => absurd h (by simp)⟩
theorem flat_int (k : IntKind) : Flat (Kd.int k) := fun _ _ _ _ h => h
theorem flat_bool : Flat Kd.bool := fun _ _ _ _ h => h
/-- what a reader's value leaves: a value, the words that are left -/
def VPost (w : World) (g : Nat) (p0 p1 p2 p3 : Value) (l' : List ByteArray) (V : Value → World → Prop) (e : Ending) (w' : World) : Prop := ∃ v, e = .returned v ∧ V v w' ∧ ExtQ.Rdr w' g p0 p1 p2 p3 l' ∧ w.grownBy w' (some g)
set_option maxHeartbeats 2000000 in
set_option maxRecDepth 100000 in
theorem value_k (w : World) (g : Nat) (p0 p1 p2 p3 : Value) (l : List ByteArray) (h : ExtQ.Rdr w g p0 p1 p2 p3 l) (hz : (l.headD ⟨#[]⟩).size ≤ 140737488351232) :
    Calls Tryd.prog 30 #[.pointer (some ⟨g, 0, none⟩), .int .i32 107] w (VPost w g p0 p1 p2 p3 l.tail fun v _ => v = .iface 35 (.int .u32 (min (ExtQ.numOf (l.headD ⟨#[]⟩)) 4294967295))) := by
  have cn := Lib.hid (ExtQ.number_any w g p0 p1 p2 p3 l h hz)
  have hb := numS_bd (l.headD ⟨#[]⟩)
  unfold ExtQ.numOf at *
  generalize (numS (l.headD ⟨#[]⟩)).1 = n at *
  generalize l.tail = t at *
  clear h hz
  go_enter Tryd.func30, Tryd.ntmps30
  go_wp2_with (first
    | (go_at_call 39
       refine cn.out.mono ?_
       rintro e v ⟨rfl, hr1, hg1⟩
       have HR1 := Aside0.mk hr1
       have HG1 := Aside0.mk hg1
       clear hr1 hg1)
    | fail)
  go_ret
  exact ⟨_, rfl, rfl, HR1.out, HG1.out⟩
set_option maxHeartbeats 2000000 in
set_option maxRecDepth 100000 in
theorem value_i (w : World) (g : Nat) (p0 p1 p2 p3 : Value) (l : List ByteArray) (h : ExtQ.Rdr w g p0 p1 p2 p3 l) (hz : (l.headD ⟨#[]⟩).size ≤ 140737488351232) :
    Calls Tryd.prog 30 #[.pointer (some ⟨g, 0, none⟩), .int .i32 105] w (VPost w g p0 p1 p2 p3 l.tail fun v _ => v = .iface 35 (.int .u32 (min (ExtQ.numOf (l.headD ⟨#[]⟩)) 4294967295))) := by
  have cn := Lib.hid (ExtQ.number_any w g p0 p1 p2 p3 l h hz)
  have hb := numS_bd (l.headD ⟨#[]⟩)
  unfold ExtQ.numOf at *
  generalize (numS (l.headD ⟨#[]⟩)).1 = n at *
  generalize l.tail = t at *
  clear h hz
  go_enter Tryd.func30, Tryd.ntmps30
  go_wp2_with (first
    | (go_at_call 39
       refine cn.out.mono ?_
       rintro e v ⟨rfl, hr1, hg1⟩
       have HR1 := Aside0.mk hr1
       have HG1 := Aside0.mk hg1
       clear hr1 hg1)
    | fail)
  go_ret
  exact ⟨_, rfl, rfl, HR1.out, HG1.out⟩
set_option maxHeartbeats 2000000 in
set_option maxRecDepth 100000 in
theorem value_b (w : World) (g : Nat) (p0 p1 p2 p3 : Value) (l : List ByteArray) (h : ExtQ.Rdr w g p0 p1 p2 p3 l) (hz : (l.headD ⟨#[]⟩).size ≤ 140737488351232) :
    Calls Tryd.prog 30 #[.pointer (some ⟨g, 0, none⟩), .int .i32 98] w (VPost w g p0 p1 p2 p3 l.tail fun v _ => v = .iface 3 (.int .i64 (min (ExtQ.numOf (l.headD ⟨#[]⟩)) 2147483648))) := by
  have cn := Lib.hid (ExtQ.number_any w g p0 p1 p2 p3 l h hz)
  have hb := numS_bd (l.headD ⟨#[]⟩)
  unfold ExtQ.numOf at *
  generalize (numS (l.headD ⟨#[]⟩)).1 = n at *
  generalize l.tail = t at *
  clear h hz
  go_enter Tryd.func30, Tryd.ntmps30
  go_wp2_with (first
    | (go_at_call 39
       refine cn.out.mono ?_
       rintro e v ⟨rfl, hr1, hg1⟩
       have HR1 := Aside0.mk hr1
       have HG1 := Aside0.mk hg1
       clear hr1 hg1)
    | fail)
  go_ret
  exact ⟨_, rfl, rfl, HR1.out, HG1.out⟩
set_option maxHeartbeats 2000000 in
set_option maxRecDepth 100000 in
theorem value_n (w : World) (g : Nat) (p0 p1 p2 p3 : Value) (l : List ByteArray) (h : ExtQ.Rdr w g p0 p1 p2 p3 l) (hz : (l.headD ⟨#[]⟩).size ≤ 140737488351232) :
    Calls Tryd.prog 30 #[.pointer (some ⟨g, 0, none⟩), .int .i32 110] w (VPost w g p0 p1 p2 p3 l.tail fun v _ => v = .iface 3 (.int .i64 (min (ExtQ.numOf (l.headD ⟨#[]⟩)) 2147483648))) := by
  have cn := Lib.hid (ExtQ.number_any w g p0 p1 p2 p3 l h hz)
  have hb := numS_bd (l.headD ⟨#[]⟩)
  unfold ExtQ.numOf at *
  generalize (numS (l.headD ⟨#[]⟩)).1 = n at *
  generalize l.tail = t at *
  clear h hz
  go_enter Tryd.func30, Tryd.ntmps30
  go_wp2_with (first
    | (go_at_call 39
       refine cn.out.mono ?_
       rintro e v ⟨rfl, hr1, hg1⟩
       have HR1 := Aside0.mk hr1
       have HG1 := Aside0.mk hg1
       clear hr1 hg1)
    | fail)
  go_ret
  exact ⟨_, rfl, rfl, HR1.out, HG1.out⟩
set_option maxHeartbeats 2000000 in
set_option maxRecDepth 100000 in
theorem value_d (w : World) (g : Nat) (p0 p1 p3 : Value) (A : Option Addr) (c : Nat) (nl : List ByteArray) (l : List ByteArray) (h : ExtQ.Rdr w g p0 p1 (.slice A nl.length c) p3 l) (hE : ∀ W, w.grownBy W (some g) → Kd.C Kd.string W A nl.length nl ∧ Aside0 (Lib.Utf8Tabs 0 1 W)) (hc : nl.length ≤ c) (hl : nl.length ≤ 1048576) (hz : ∀ i, (nl.getD i ByteArray.empty).size ≤ 17592186044416) :
    Calls Tryd.prog 30 #[.pointer (some ⟨g, 0, none⟩), .int .i32 100] w (VPost w g p0 p1 (.slice A nl.length c) p3 l.tail fun v _ => v = .iface 3 (.int .i64 (ExtQ.nameI nl (l.headD ⟨#[]⟩)))) := by
  have cn := Lib.hid (ExtQ.name_any w g p0 p1 p3 A c nl l h hE hc hl hz)
  generalize ExtQ.nameI nl (l.headD ⟨#[]⟩) = n at *
  generalize l.tail = t at *
  clear h hE hc hl hz
  go_enter Tryd.func30, Tryd.ntmps30
  go_wp2_with (first
    | (go_at_call 38
       refine cn.out.mono ?_
       rintro e v ⟨rfl, hr1, hg1⟩
       have HR1 := Aside0.mk hr1
       have HG1 := Aside0.mk hg1
       clear hr1 hg1)
    | fail)
  go_ret
  exact ⟨_, rfl, rfl, HR1.out, HG1.out⟩
set_option maxHeartbeats 2000000 in
set_option maxRecDepth 100000 in
theorem value_t (w : World) (g : Nat) (p0 p1 p3 : Value) (A : Option Addr) (c : Nat) (nl : List ByteArray) (l : List ByteArray) (h : ExtQ.Rdr w g p0 p1 (.slice A nl.length c) p3 l) (hE : ∀ W, w.grownBy W (some g) → Kd.C Kd.string W A nl.length nl ∧ Aside0 (Lib.Utf8Tabs 0 1 W)) (hc : nl.length ≤ c) (hl : nl.length ≤ 1048576) (hz : ∀ i, (nl.getD i ByteArray.empty).size ≤ 17592186044416) :
    Calls Tryd.prog 30 #[.pointer (some ⟨g, 0, none⟩), .int .i32 116] w (VPost w g p0 p1 (.slice A nl.length c) p3 l.tail fun v _ => v = .iface 3 (.int .i64 (ExtQ.nameI nl (l.headD ⟨#[]⟩)))) := by
  have cn := Lib.hid (ExtQ.name_any w g p0 p1 p3 A c nl l h hE hc hl hz)
  generalize ExtQ.nameI nl (l.headD ⟨#[]⟩) = n at *
  generalize l.tail = t at *
  clear h hE hc hl hz
  go_enter Tryd.func30, Tryd.ntmps30
  go_wp2_with (first
    | (go_at_call 38
       refine cn.out.mono ?_
       rintro e v ⟨rfl, hr1, hg1⟩
       have HR1 := Aside0.mk hr1
       have HG1 := Aside0.mk hg1
       clear hr1 hg1)
    | fail)
  go_ret
  exact ⟨_, rfl, rfl, HR1.out, HG1.out⟩
set_option maxHeartbeats 2000000 in
set_option maxRecDepth 100000 in
theorem value_w (w : World) (g : Nat) (p0 p1 p2 p3 : Value) (l : List ByteArray) (h : ExtQ.Rdr w g p0 p1 p2 p3 l) (hz : (l.headD ⟨#[]⟩).size ≤ 140737488351232) :
    Calls Tryd.prog 30 #[.pointer (some ⟨g, 0, none⟩), .int .i32 119] w (VPost w g p0 p1 p2 p3 l.tail fun v w' => ∃ u, v = .iface 39 u ∧ Held (Kd.int .u8) 5 w.heap.size w' u (unhexS (l.headD ⟨#[]⟩)).1) := by
  have cn := Lib.hid (ExtQ.next_any w g p0 p1 p2 p3 l h)
  have cm := Lib.hid (fun W => unhex_walk (l.headD ⟨#[]⟩) W hz)
  generalize (unhexS (l.headD ⟨#[]⟩)) = U at *
  generalize l.headD ⟨#[]⟩ = s at *
  generalize l.tail = t at *
  clear h hz
  go_enter Tryd.func30, Tryd.ntmps30
  go_wp2_with (first
    | (go_at_call 41
       refine cn.out.mono ?_
       rintro e v ⟨rfl, hr1, hg1⟩
       have HR1 := Aside0.mk hr1
       have HG1 := Aside0.mk hg1
       clear hr1 hg1)
    | (go_at_call 40
       refine (cm.out _).mono ?_
       rintro e v2 ⟨u, rfl, hR, hb⟩
       have HH := Aside0.mk ((Held.of hR).lower (show w.heap.size ≤ _ from HG1.out.size))
       have HR2 := Aside0.mk (HR1.out.below hb)
       have HG2 := Aside0.mk (HG1.out.trans (grown_of_below hb (some g)))
       clear hb hR)
    | fail)
  obtain ⟨Au, cu, rfl, -, -, -⟩ := HH.out.out
  go_ret
  exact ⟨_, rfl, ⟨_, rfl, HH.out⟩, HR2.out, HG2.out⟩
set_option maxHeartbeats 2000000 in
set_option maxRecDepth 100000 in
theorem value_x (w : World) (g : Nat) (p0 p1 p2 p3 : Value) (l : List ByteArray) (h : ExtQ.Rdr w g p0 p1 p2 p3 l) (hz : (l.headD ⟨#[]⟩).size ≤ 140737488351232) :
    Calls Tryd.prog 30 #[.pointer (some ⟨g, 0, none⟩), .int .i32 120] w (VPost w g p0 p1 p2 p3 l.tail fun v w' => ∃ u, v = .iface 39 u ∧ Held (Kd.int .u8) 5 w.heap.size w' u (unhexS (l.headD ⟨#[]⟩)).1) := by
  have cn := Lib.hid (ExtQ.next_any w g p0 p1 p2 p3 l h)
  have cm := Lib.hid (fun W => unhex_walk (l.headD ⟨#[]⟩) W hz)
  generalize (unhexS (l.headD ⟨#[]⟩)) = U at *
  generalize l.headD ⟨#[]⟩ = s at *
  generalize l.tail = t at *
  clear h hz
  go_enter Tryd.func30, Tryd.ntmps30
  go_wp2_with (first
    | (go_at_call 41
       refine cn.out.mono ?_
       rintro e v ⟨rfl, hr1, hg1⟩
       have HR1 := Aside0.mk hr1
       have HG1 := Aside0.mk hg1
       clear hr1 hg1)
    | (go_at_call 40
       refine (cm.out _).mono ?_
       rintro e v2 ⟨u, rfl, hR, hb⟩
       have HH := Aside0.mk ((Held.of hR).lower (show w.heap.size ≤ _ from HG1.out.size))
       have HR2 := Aside0.mk (HR1.out.below hb)
       have HG2 := Aside0.mk (HG1.out.trans (grown_of_below hb (some g)))
       clear hb hR)
    | fail)
  obtain ⟨Au, cu, rfl, -, -, -⟩ := HH.out.out
  go_ret
  exact ⟨_, rfl, ⟨_, rfl, HH.out⟩, HR2.out, HG2.out⟩
theorem below_bytes (W : World) (s : ByteArray) : Below W.heap.size W (Lib.bytesWorld W 5 s) := ⟨rfl, rfl, rfl, by rw [Lib.bytesWorld_size]; omega, fun j hj => Lib.bytesWorld_at_old W 5 s j hj⟩
/-- the row that a conversion of a string to bytes makes -/
theorem held_conv (W : World) (s : ByteArray) (hs : s.size ≤ 17592186044416) : Held (Kd.int .u8) 5 W.heap.size (Lib.bytesWorld W 5 s) (.slice (some ⟨W.heap.size, 0, none⟩) s.size (grownCap W s.size 0 5)) (bytesOf s) := by
  have hlen : (bytesOf s).length = s.size := by unfold bytesOf; rw [List.length_map, Array.length_toList]; rfl
  refine ⟨some ⟨W.heap.size, 0, none⟩, grownCap W s.size 0 5, by rw [hlen], ?_, ⟨rfl, by rw [hlen]; omega, fun _ => ⟨_, rfl, fun j p hj => ?_⟩⟩, fun _ => ⟨_, rfl, Nat.le_refl _, _, _, Lib.bytesWorld_at_new W 5 s⟩⟩
  · rw [hlen]; exact grownCap_ge _ _ _ _
  · have hjl : j < s.size := by
      have := (List.getElem?_eq_some_iff.1 hj).1
      omega
    refine ⟨[.int .u8 p], rfl, rfl, fun i u hu => ?_⟩
    match i, hu with
    | 0, hu =>
      simp at hu
      subst hu
      have e : (⟨W.heap.size, 0, none⟩ : Addr).add (j * 1 + 0) = ⟨W.heap.size, j, none⟩ := by unfold Addr.add; by_cases h : j = 0 <;> simp [h]
      show World.cell? _ (Addr.add _ (j * 1 + 0)) = _
      rw [e, Lib.bytesWorld_cell W 5 s j hjl]
      congr 2
      unfold bytesOf at hj
      rw [List.getElem?_map] at hj
      rw [List.getD_eq_getElem?_getD]
      cases hx : s.data.toList[j]? with
      | none => rw [hx] at hj; cases hj
      | some b => rw [hx] at hj; cases hj; rfl
    | i + 1, hu => simp at hu
set_option maxHeartbeats 2000000 in
set_option maxRecDepth 100000 in
theorem value_m (w : World) (g : Nat) (p0 p1 p2 p3 : Value) (l : List ByteArray) (h : ExtQ.Rdr w g p0 p1 p2 p3 l) (hz : (l.headD ⟨#[]⟩).size ≤ 17592186044416) (hq : (unqS (l.headD ⟨#[]⟩)).1.size ≤ 17592186044416) (hT : ∀ W, w.grownBy W (some g) → Lib.Utf8Tabs 0 1 W) :
    Calls Tryd.prog 30 #[.pointer (some ⟨g, 0, none⟩), .int .i32 109] w (VPost w g p0 p1 p2 p3 l.tail fun v w' => ∃ u, v = .iface 39 u ∧ Held (Kd.int .u8) 5 w.heap.size w' u (bytesOf (unqS (l.headD ⟨#[]⟩)).1)) := by
  have cn := Lib.hid (ExtQ.next_any w g p0 p1 p2 p3 l h)
  have cm := Lib.hid (fun W (hW : w.grownBy W (some g)) => unquote_walk (l.headD ⟨#[]⟩) W hz (hT W hW))
  have hcv := fun W => Lib.run_convert_string_bytes (P := Tryd.prog) W 9 39 5 (unqS (l.headD ⟨#[]⟩)).1 Tryd.underlying9 Tryd.underlying39 Tryd.underlying5
  have hh := Lib.hid (fun W => held_conv W (unqS (l.headD ⟨#[]⟩)).1 hq)
  generalize (unqS (l.headD ⟨#[]⟩)).1 = s1 at *
  generalize (unqS (l.headD ⟨#[]⟩)).2 = s2 at *
  generalize l.headD ⟨#[]⟩ = s at *
  generalize l.tail = t at *
  clear h hz hq hT
  go_enter Tryd.func30, Tryd.ntmps30
  go_wp2_with (first
    | (go_at_call 41
       refine cn.out.mono ?_
       rintro e v ⟨rfl, hr1, hg1⟩
       have HR1 := Aside0.mk hr1
       have HG1 := Aside0.mk hg1
       clear hr1 hg1)
    | (go_at_call 42
       refine (cm.out _ HG1.out).mono ?_
       rintro e v2 ⟨rfl, hb⟩
       have HR2 := Aside0.mk (HR1.out.below hb)
       have HG2 := Aside0.mk (HG1.out.trans (grown_of_below hb (some g)))
       clear hb)
    | fail)
  go_ret
  have hlen : (bytesOf s1).length = s1.size := by unfold bytesOf; rw [List.length_map, Array.length_toList]; rfl
  have hbw : Below v2.heap.size v2 (Lib.bytesWorld v2 5 s1) := below_bytes v2 s1
  exact ⟨_, rfl, ⟨_, rfl, (hh.out v2).lower HG2.out.size⟩, HR2.out.below hbw, HG2.out.trans (grown_of_below hbw _)⟩
set_option maxHeartbeats 2000000 in
set_option maxRecDepth 100000 in
theorem value_r (w : World) (g : Nat) (p0 p1 p2 p3 : Value) (l : List ByteArray) (h : ExtQ.Rdr w g p0 p1 p2 p3 l) (hz : (l.headD ⟨#[]⟩).size ≤ 140737488351232) (hz2 : (l.tail.headD ⟨#[]⟩).size ≤ 140737488351232) :
    Calls Tryd.prog 30 #[.pointer (some ⟨g, 0, none⟩), .int .i32 114] w (VPost w g p0 p1 p2 p3 l.tail.tail fun v _ => v = .iface 38 (.agg #[.int .u64 (ExtQ.numOf (l.headD ⟨#[]⟩)), .int .u64 (ExtQ.numOf (l.tail.headD ⟨#[]⟩))])) := by
  have cn := Lib.hid (ExtQ.number_any w g p0 p1 p2 p3 l h hz)
  have cm := Lib.hid (fun W (hW : ExtQ.Rdr W g p0 p1 p2 p3 l.tail) => ExtQ.number_any W g p0 p1 p2 p3 l.tail hW hz2)
  generalize ExtQ.numOf (l.headD ⟨#[]⟩) = n at *
  generalize ExtQ.numOf (l.tail.headD ⟨#[]⟩) = m at *
  generalize l.tail = t at *
  generalize t.tail = t2 at *
  clear h hz hz2
  go_enter Tryd.func30, Tryd.ntmps30
  go_wp2_with (first
    | (go_at_call 39
       first
       | (refine (cm.out _ HR1.out).mono ?_
          rintro e v2 ⟨rfl, hr2, hg2⟩
          have HR2 := Aside0.mk hr2
          have HG2 := Aside0.mk (HG1.out.trans hg2)
          clear hr2 hg2)
       | (refine cn.out.mono ?_
          rintro e v ⟨rfl, hr1, hg1⟩
          have HR1 := Aside0.mk hr1
          have HG1 := Aside0.mk hg1
          clear hr1 hg1))
    | fail)
  go_ret
  exact ⟨_, rfl, rfl, HR2.out, HG2.out⟩
end Go.Proofs.YtpdinahdcedmkaaDoor.Ext

