import Derived.Test.YtpdinahdcedmkaaGreatDoorK18
import Derived.Test.YtpdinahdcedmkaaGreatDoorK4
set_option linter.unusedVariables false
set_option linter.unusedSimpArgs false
set_option maxHeartbeats 4000000
set_option maxRecDepth 100000
/- An argument that is a plan, opened: its kind's reading, and that its numbers are of their kinds. -/
namespace Go.Proofs.YtpdinahdcedmkaaGreatDoor.Ext
open Go.Proofs.YtpdinahdcedmkaaGreatDoor.P
open Go.RowKit YtpdinahdcedmkaaGreatDoorW.PrintWords YtpdinahdcedmkaaGreatDoorW.PrintLast YtpdinahdcedmkaaGreatDoorW.PrintMore Go.Proofs.YtpdinahdcedmkaaGreatDoor.Spec
def Opens {α : Type} (κ : Kd α) (ok : α -> Prop) (t : TypeId) : Prop := ∀ (H : Type) (enc : TypeId × Value -> H) (w : World) (fuel : Nat) (cs : List Value) (x : DataW H × List MemPlace), DataW.trod enc Tryz.prog w 0 (fun _ => true) true fuel t cs = some x -> ∃ a, κ.K w a cs /\ ok a
def OpensS {α : Type} (κ : Kd α) (ok : α -> Prop) (t : TypeId) : Prop := ∀ (H : Type) (enc : TypeId × Value -> H) (w : World) (fuel : Nat) (cs : List Value) (x : DataW H × List MemPlace), DataW.trod enc Tryz.prog w 0 (fun _ => true) true fuel t cs = some x -> ∃ A c l, cs = [.slice A (l : List α).length c] /\ l.length <= c /\ κ.C w A l.length l /\ ∀ a ∈ l, ok a
theorem many {α : Type} {Q : Nat -> α -> Prop} : ∀ n, (∀ i, i < n -> ∃ a, Q i a) -> ∃ l : List α, l.length = n /\ ∀ j p, l[j]? = some p -> Q j p
 | 0, _ => ⟨[], rfl, fun j p h => by simp at h⟩
 | n + 1, h => by
   obtain ⟨l, hl, hq⟩ := many n (fun i hi => h i (by omega))
   obtain ⟨a, ha⟩ := h n (by omega)
   refine ⟨l ++ [a], by simp [hl], fun j p hj => ?_⟩
   by_cases hjn : j < l.length
   · rw [List.getElem?_append_left hjn] at hj
     exact hq j p hj
   · rw [List.getElem?_append_right (by omega)] at hj
     have hj0 : j = n := by
      by_cases h0 : j - l.length = 0
      · omega
      · obtain ⟨m, hm⟩ := Nat.exists_eq_succ_of_ne_zero h0
        rw [hm] at hj
        simp at hj
     subst hj0
     rw [hl, Nat.sub_self] at hj
     cases hj
     exact ha
theorem opens_slice {α : Type} {κ : Kd α} {ok : α -> Prop} {t e : TypeId} (ht : Tryz.prog.underlying t = some (.slice e)) (hc : Tryz.prog.cellsOf e = κ.sz) (he : Opens κ ok e) : OpensS κ ok t := by
 intro H enc w fuel cs x h
 rcases Go.Deep.open_slice ht h with ⟨rfl, _⟩ | ⟨a, len, cap, m, n, D, Pl, rfl, hb, hl, hm, hmm, _, hx⟩
 · exact ⟨none, 0, [], rfl, Nat.le_refl _, Kd.C_nil _ _, fun a h => by cases h⟩
 · obtain ⟨l, hlen, hq⟩ := many (Q := fun j p => (∃ c, c.length = κ.sz /\ κ.K w p c /\ ∀ i u, c[i]? = some u -> w.cell? (a.add (j * κ.sz + i)) = some u) /\ ok p) len (fun i hi => by
    obtain ⟨cs', h1, h2⟩ := hx i (by rw [hmm]; simp; omega)
    obtain ⟨_, hl2, hc2⟩ := World.cells?_some h1
    obtain ⟨p, hK, hok⟩ := he H enc w n cs' _ h2
    rw [hc] at hl2 hc2
    refine ⟨p, ⟨cs', hl2, hK, fun k u hk => ?_⟩, hok⟩
    have hk2 : k < κ.sz := by
     rw [<- hl2]
     exact (List.getElem?_eq_some_iff.1 hk).1
    have := hc2 k hk2
    rw [Go.Deep.add_add] at this
    exact this.trans hk)
   subst hlen
   have hmx : l.length <= 9223372036854775807 := by
    simp only [maxLen] at hm
    omega
   refine ⟨some a, cap, l, rfl, hl, ⟨rfl, hmx, fun _ => ⟨a, rfl, fun j p hj => (hq j p hj).1⟩⟩, fun p hp => ?_⟩
   obtain ⟨j, hj⟩ := List.getElem?_of_mem hp
   exact (hq j p hj).2
theorem fld {t : TypeId} {fs : Array Field} (ht : Tryz.prog.underlying t = some (.struct fs)) {H : Type} {enc : TypeId × Value -> H} {w : World} {fuel : Nat} {cs : List Value} {x : DataW H × List MemPlace} (h : DataW.trod enc Tryz.prog w 0 (fun _ => true) true fuel t cs = some x) :
 ∃ n, cs.length = Tryz.prog.cellsOf t /\ ∀ (i : Nat) (f : Field), fs[i]? = some f -> ∃ y, DataW.trod enc Tryz.prog w 0 (fun _ => true) true n f.type ((cs.drop f.offset).take (Tryz.prog.cellsOf f.type)) = some y := by
 obtain ⟨xs, n, _, _, hl, hxl, hf⟩ := DataW.trod_struct ht h
 refine ⟨n, hl, fun i f hi => ?_⟩
 have hlt : i < fs.size := (Array.getElem?_eq_some_iff.1 hi).1
 exact ⟨xs[i]'(by omega), by rw [hf i f hi, List.getElem?_eq_getElem]⟩
theorem list2 {cs : List Value} (h : cs.length = 2) : ∃ c0 c1, cs = [c0, c1] := by
 match cs, h with
 | [c0, c1], _ => exact ⟨c0, c1, rfl⟩
theorem list4 {cs : List Value} (h : cs.length = 4) : ∃ c0 c1 c2 c3, cs = [c0, c1, c2, c3] := by
 match cs, h with
 | [c0, c1, c2, c3], _ => exact ⟨c0, c1, c2, c3, rfl⟩
theorem list13 {cs : List Value} (h : cs.length = 13) : ∃ c0 c1 c2 c3 c4 c5 c6 c7 c8 c9 c10 c11 c12, cs = [c0, c1, c2, c3, c4, c5, c6, c7, c8, c9, c10, c11, c12] := by
 match cs, h with
 | [c0, c1, c2, c3, c4, c5, c6, c7, c8, c9, c10, c11, c12], _ => exact ⟨c0, c1, c2, c3, c4, c5, c6, c7, c8, c9, c10, c11, c12, rfl⟩
theorem wf32 {n : Int} (h : (Lit.int .u32 n).wf = true) : u32P n := by
 simp only [Lit.wf, Bool.and_eq_true, decide_eq_true_eq, show IntKind.u32.min = 0 by decide, show IntKind.u32.max = 4294967295 by decide] at h
 exact ⟨by omega, by omega⟩
theorem wf64 {n : Int} (h : (Lit.int .u64 n).wf = true) : u64P n := by
 simp only [Lit.wf, Bool.and_eq_true, decide_eq_true_eq, show IntKind.u64.min = 0 by decide, show IntKind.u64.max = 18446744073709551615 by decide] at h
 exact ⟨by omega, by omega⟩
theorem wfi {n : Int} (h : (Lit.int .i64 n).wf = true) : -9223372036854775808 <= n /\ n <= 9223372036854775807 := by
 simp only [Lit.wf, Bool.and_eq_true, decide_eq_true_eq, show IntKind.i64.min = -9223372036854775808 by decide, show IntKind.i64.max = 9223372036854775807 by decide] at h
 exact ⟨by omega, by omega⟩
theorem wf8 {n : Int} (h : (Lit.int .u8 n).wf = true) : 0 <= n /\ n <= 255 := by
 simp only [Lit.wf, Bool.and_eq_true, decide_eq_true_eq, show IntKind.u8.min = 0 by decide, show IntKind.u8.max = 255 by decide] at h
 omega
theorem opens_u8 : Opens (Kd.int .u8) (fun n => 0 <= n /\ n <= 255) 5 := by
 intro H enc w fuel cs x h
 obtain ⟨n, rfl, -, wf⟩ := DataW.trod_int Tryz.underlying5 h
 exact ⟨n, rfl, wf8 wf⟩
theorem opens_b : Opens Kd.bool (fun _ => True) 4 := by
 intro H enc w fuel cs x h
 obtain ⟨n, rfl, -⟩ := DataW.trod_bool Tryz.underlying4 h
 exact ⟨n, rfl, trivial⟩
theorem opens_s : Opens Kd.string (fun _ => True) 9 := by
 intro H enc w fuel cs x h
 obtain ⟨n, rfl, -, -⟩ := DataW.trod_string Tryz.underlying9 h
 exact ⟨n, rfl, trivial⟩
theorem opens_by : OpensS (Kd.int .u8) (fun n => 0 <= n /\ n <= 255) 31 := opens_slice Tryz.underlying31 (by kernel_rfl) opens_u8
theorem opens_bo : OpensS Kd.bool (fun _ => True) 32 := opens_slice Tryz.underlying32 (by kernel_rfl) opens_b
theorem opens_st : OpensS Kd.string (fun _ => True) 22 := opens_slice Tryz.underlying22 (by kernel_rfl) opens_s
theorem opens_rg : Opens k30 (fun v => u64P v.f0 /\ u64P v.f1) 30 := by
 intro H enc w fuel cs x h
 obtain ⟨n, hl, hf⟩ := fld Tryz.underlying30 h
 clear h
 rw [show Tryz.prog.cellsOf 30 = 2 by kernel_rfl] at hl
 have k_uint64 : Tryz.prog.cellsOf 28 = 1 := by kernel_rfl
 obtain ⟨c0, c1, rfl⟩ := list2 hl
 · skip
   obtain ⟨y0, h0⟩ := hf 0 _ rfl
   replace h0 : DataW.trod enc Tryz.prog w 0 (fun _ => true) true n 28 [c0] = some y0 := by simpa [k_uint64] using h0
   obtain ⟨v0, e0, -, w0⟩ := DataW.trod_int Tryz.underlying28 h0
   cases e0
   obtain ⟨y1, h1⟩ := hf 1 _ rfl
   replace h1 : DataW.trod enc Tryz.prog w 0 (fun _ => true) true n 28 [c1] = some y1 := by simpa [k_uint64] using h1
   obtain ⟨v1, e1, -, w1⟩ := DataW.trod_int Tryz.underlying28 h1
   cases e1
   exact ⟨⟨v0, v1⟩, k30_mk w ⟨v0, v1⟩ , ⟨wf64 w0, wf64 w1⟩⟩
theorem opens_level : Opens k74 (fun v => u32P v.f0 /\ u32P v.f1) 74 := by
 intro H enc w fuel cs x h
 obtain ⟨n, hl, hf⟩ := fld Tryz.underlying74 h
 clear h
 rw [show Tryz.prog.cellsOf 74 = 2 by kernel_rfl] at hl
 have k_uint32 : Tryz.prog.cellsOf 27 = 1 := by kernel_rfl
 obtain ⟨c0, c1, rfl⟩ := list2 hl
 · skip
   obtain ⟨y0, h0⟩ := hf 0 _ rfl
   replace h0 : DataW.trod enc Tryz.prog w 0 (fun _ => true) true n 27 [c0] = some y0 := by simpa [k_uint32] using h0
   obtain ⟨v0, e0, -, w0⟩ := DataW.trod_int Tryz.underlying27 h0
   cases e0
   obtain ⟨y1, h1⟩ := hf 1 _ rfl
   replace h1 : DataW.trod enc Tryz.prog w 0 (fun _ => true) true n 27 [c1] = some y1 := by simpa [k_uint32] using h1
   obtain ⟨v1, e1, -, w1⟩ := DataW.trod_int Tryz.underlying27 h1
   cases e1
   exact ⟨⟨v0, v1⟩, k74_mk w ⟨v0, v1⟩ , ⟨wf32 w0, wf32 w1⟩⟩
theorem opens_lv : OpensS k74 (fun v => u32P v.f0 /\ u32P v.f1) 26 := opens_slice Tryz.underlying26 (by kernel_rfl) opens_level
theorem getD_all {α : Type} {Q : α -> Prop} {l : List α} {d : α} (h : ∀ a ∈ l, Q a) (hd : Q d) (i : Nat) : Q (l.getD i d) := by
 rw [List.getD_eq_getElem?_getD]
 by_cases hi : i < l.length
 · rw [List.getElem?_eq_getElem hi]
   exact h _ (List.getElem_mem hi)
 · rw [List.getElem?_eq_none (by omega)]
   exact hd
theorem u32_0 : u32P 0 := ⟨by omega, by omega⟩
theorem opens_act : Opens k34 ActOk 34 := by
 intro H enc w fuel cs x h
 obtain ⟨n, hl, hf⟩ := fld Tryz.underlying34 h
 clear h
 rw [show Tryz.prog.cellsOf 34 = 13 by kernel_rfl] at hl
 have k_bo : Tryz.prog.cellsOf 32 = 1 := by kernel_rfl
 have k_by : Tryz.prog.cellsOf 31 = 1 := by kernel_rfl
 have k_int : Tryz.prog.cellsOf 3 = 1 := by kernel_rfl
 have k_lv : Tryz.prog.cellsOf 26 = 1 := by kernel_rfl
 have k_rg : Tryz.prog.cellsOf 30 = 2 := by kernel_rfl
 have k_uint32 : Tryz.prog.cellsOf 27 = 1 := by kernel_rfl
 obtain ⟨c0, c1, c2, c3, c4, c5, c6, c7, c8, c9, c10, c11, c12, rfl⟩ := list13 hl
 · skip
   obtain ⟨y0, h0⟩ := hf 0 _ rfl
   replace h0 : DataW.trod enc Tryz.prog w 0 (fun _ => true) true n 3 [c0] = some y0 := by simpa [k_int] using h0
   obtain ⟨v0, e0, -, w0⟩ := DataW.trod_int Tryz.underlying3 h0
   cases e0
   obtain ⟨y1, h1⟩ := hf 1 _ rfl
   replace h1 : DataW.trod enc Tryz.prog w 0 (fun _ => true) true n 3 [c1] = some y1 := by simpa [k_int] using h1
   obtain ⟨v1, e1, -, w1⟩ := DataW.trod_int Tryz.underlying3 h1
   cases e1
   obtain ⟨y2, h2⟩ := hf 2 _ rfl
   replace h2 : DataW.trod enc Tryz.prog w 0 (fun _ => true) true n 3 [c2] = some y2 := by simpa [k_int] using h2
   obtain ⟨v2, e2, -, w2⟩ := DataW.trod_int Tryz.underlying3 h2
   cases e2
   obtain ⟨y3, h3⟩ := hf 3 _ rfl
   replace h3 : DataW.trod enc Tryz.prog w 0 (fun _ => true) true n 3 [c3] = some y3 := by simpa [k_int] using h3
   obtain ⟨v3, e3, -, w3⟩ := DataW.trod_int Tryz.underlying3 h3
   cases e3
   obtain ⟨y4, h4⟩ := hf 4 _ rfl
   replace h4 : DataW.trod enc Tryz.prog w 0 (fun _ => true) true n 26 [c4] = some y4 := by simpa [k_lv] using h4
   obtain ⟨A4, d4, l4, e4, u4, g4, o4⟩ := opens_lv H enc w n _ _ h4
   cases e4
   obtain ⟨y5, h5⟩ := hf 5 _ rfl
   replace h5 : DataW.trod enc Tryz.prog w 0 (fun _ => true) true n 27 [c5] = some y5 := by simpa [k_uint32] using h5
   obtain ⟨v5, e5, -, w5⟩ := DataW.trod_int Tryz.underlying27 h5
   cases e5
   obtain ⟨y6, h6⟩ := hf 6 _ rfl
   replace h6 : DataW.trod enc Tryz.prog w 0 (fun _ => true) true n 27 [c6] = some y6 := by simpa [k_uint32] using h6
   obtain ⟨v6, e6, -, w6⟩ := DataW.trod_int Tryz.underlying27 h6
   cases e6
   obtain ⟨y7, h7⟩ := hf 7 _ rfl
   replace h7 : DataW.trod enc Tryz.prog w 0 (fun _ => true) true n 27 [c7] = some y7 := by simpa [k_uint32] using h7
   obtain ⟨v7, e7, -, w7⟩ := DataW.trod_int Tryz.underlying27 h7
   cases e7
   obtain ⟨y8, h8⟩ := hf 8 _ rfl
   replace h8 : DataW.trod enc Tryz.prog w 0 (fun _ => true) true n 30 [c8, c9] = some y8 := by simpa [k_rg] using h8
   obtain ⟨v8, q8, b8⟩ := opens_rg H enc w n _ _ h8
   cases k30_open q8
   obtain ⟨y9, h9⟩ := hf 9 _ rfl
   replace h9 : DataW.trod enc Tryz.prog w 0 (fun _ => true) true n 3 [c10] = some y9 := by simpa [k_int] using h9
   obtain ⟨v9, e9, -, w9⟩ := DataW.trod_int Tryz.underlying3 h9
   cases e9
   obtain ⟨y10, h10⟩ := hf 10 _ rfl
   replace h10 : DataW.trod enc Tryz.prog w 0 (fun _ => true) true n 31 [c11] = some y10 := by simpa [k_by] using h10
   obtain ⟨A10, d10, l10, e10, u10, g10, o10⟩ := opens_by H enc w n _ _ h10
   cases e10
   obtain ⟨y11, h11⟩ := hf 11 _ rfl
   replace h11 : DataW.trod enc Tryz.prog w 0 (fun _ => true) true n 32 [c12] = some y11 := by simpa [k_bo] using h11
   obtain ⟨A11, d11, l11, e11, u11, g11, o11⟩ := opens_bo H enc w n _ _ h11
   cases e11
   exact ⟨⟨v0, v1, v2, v3, l4, v5, v6, v7, v8, v9, l10, l11⟩, k34_mk w ⟨v0, v1, v2, v3, l4, v5, v6, v7, v8, v9, l10, l11⟩ u4 g4 u10 g10 u11 g11, ⟨⟨fun i => getD_all (Q := fun v : Lv => u32P v.f0 /\ u32P v.f1) o4 ⟨u32_0, u32_0⟩ i, wf32 w5⟩, o10, b8, wf32 w6, wf32 w7, by simp only [List.forall_mem_cons]; exact ⟨wfi w0, wfi w1, wfi w2, wfi w3, wfi w9, fun _ h => by cases h⟩⟩⟩
theorem opens_ac : OpensS k34 ActOk 23 := opens_slice Tryz.underlying23 (by kernel_rfl) opens_act
theorem actOk_z : ActOk z34 := ⟨⟨fun i => by exact ⟨u32_0, u32_0⟩, u32_0⟩, fun x h => (by cases h), ⟨⟨by decide, by decide⟩, ⟨by decide, by decide⟩⟩, u32_0, u32_0, by decide⟩
theorem opens_plan : Opens k25 PlanOk 25 := by
 intro H enc w fuel cs x h
 obtain ⟨n, hl, hf⟩ := fld Tryz.underlying25 h
 clear h
 rw [show Tryz.prog.cellsOf 25 = 4 by kernel_rfl] at hl
 have k_ac : Tryz.prog.cellsOf 23 = 1 := by kernel_rfl
 have k_int : Tryz.prog.cellsOf 3 = 1 := by kernel_rfl
 have k_st : Tryz.prog.cellsOf 22 = 1 := by kernel_rfl
 obtain ⟨c0, c1, c2, c3, rfl⟩ := list4 hl
 · skip
   obtain ⟨y0, h0⟩ := hf 0 _ rfl
   replace h0 : DataW.trod enc Tryz.prog w 0 (fun _ => true) true n 3 [c0] = some y0 := by simpa [k_int] using h0
   obtain ⟨v0, e0, -, w0⟩ := DataW.trod_int Tryz.underlying3 h0
   cases e0
   obtain ⟨y1, h1⟩ := hf 1 _ rfl
   replace h1 : DataW.trod enc Tryz.prog w 0 (fun _ => true) true n 3 [c1] = some y1 := by simpa [k_int] using h1
   obtain ⟨v1, e1, -, w1⟩ := DataW.trod_int Tryz.underlying3 h1
   cases e1
   obtain ⟨y2, h2⟩ := hf 2 _ rfl
   replace h2 : DataW.trod enc Tryz.prog w 0 (fun _ => true) true n 22 [c2] = some y2 := by simpa [k_st] using h2
   obtain ⟨A2, d2, l2, e2, u2, g2, o2⟩ := opens_st H enc w n _ _ h2
   cases e2
   obtain ⟨y3, h3⟩ := hf 3 _ rfl
   replace h3 : DataW.trod enc Tryz.prog w 0 (fun _ => true) true n 23 [c3] = some y3 := by simpa [k_ac] using h3
   obtain ⟨A3, d3, l3, e3, u3, g3, o3⟩ := opens_ac H enc w n _ _ h3
   cases e3
   exact ⟨⟨v0, v1, l2, l3⟩, k25_mk w ⟨v0, v1, l2, l3⟩ u2 g2 u3 g3, ⟨fun i => getD_all (Q := ActOk) o3 actOk_z i, by simp only [List.forall_mem_cons]; exact ⟨wfi w0, wfi w1, fun _ h => by cases h⟩⟩⟩
theorem open_plan {H : Type} {enc : TypeId × Value -> H} {W : World} {r : Reach} {b0 : Nat} {v : Value} {d : DataW H} {ps : List MemPlace} (hv : Value.okWide Tryz.prog W r b0 25 v) (h : DataW.Trod enc Tryz.prog W 0 (fun _ => true) true 25 v d ps) :
 ∃ (cs : List Value) (p : Plan), v = .agg cs.toArray /\ k25.K W p cs /\ PlanOk p := by
 obtain ⟨cs, rfl, -⟩ := Go.WideShapes.okWide_struct Tryz.underlying25 hv
 obtain ⟨fuel, hf⟩ := h
 obtain ⟨p, hK, hok⟩ := opens_plan H enc W fuel _ _ hf
 exact ⟨cs.toList, p, by simp, by simpa [Value.cells] using hK, hok⟩
end Go.Proofs.YtpdinahdcedmkaaGreatDoor.Ext
