import Derived.Test.YtpdinahdcedmkaaGreatDoorK11
import Derived.Deep.RegionWith
import Derived.Test.YtpdinahdcedmkaaGreatDoorK6
import Derived.Lib.CutLaws
import Derived.Lib.ConvBytes
import Derived.Test.YtpdinahdcedmkaaGreatDoorK5
import Derived.Laws.CopyOwn
import Derived.Test.YtpdinahdcedmkaaGreatDoorK10
set_option linter.unusedVariables false
set_option linter.unusedSimpArgs false
set_option maxHeartbeats 16000000
set_option maxRecDepth 100000
/- param.Code: the kind and the code of a name. -/
namespace Go.Proofs.YtpdinahdcedmkaaGreatDoor.ExtP
open Go.Proofs.YtpdinahdcedmkaaGreatDoor.Ext hiding blk_cell blk_set
open Go.RowKit Go.Shelf YtpdinahdcedmkaaGreatDoorW.PrintWords YtpdinahdcedmkaaGreatDoorW.PrintLast YtpdinahdcedmkaaGreatDoorW.PrintMore Go.Proofs.YtpdinahdcedmkaaGreatDoor.Spec
attribute [local go_sem] Oper.semAt_some
theorem append_walk (Bk Bf : Nat) (kind first : Int) (h0 : 0 <= first) (h1 : first + 64 < 4294967296) (w : World) (hBk : Bk < w.heap.size) (hBf : Bf < w.heap.size)
 (hck : w.cell? ⟨Bk, 0, none⟩ = some (.int .i64 kind)) (hcf : w.cell? ⟨Bf, 0, none⟩ = some (.int .u32 first)) :
 Calls Tryz.prog 171 #[.slice none 0 0, .func (.func 178) #[] #[.pointer (some ⟨Bk, 0, none⟩), .pointer (some ⟨Bf, 0, none⟩)]] w fun e w' => ∃ v, e = .returned v /\ Kd.R (Kd.int .u32) 27 w' w.heap.size (fun _ => True) v (codesL kind first) /\ Below w.heap.size w w' := by
 obtain ⟨i0, hi, hz0, hz1, hz2⟩ := info_parts info_u32
 refine (callsIn_wide (n := 5)).1 ?_
 refine callsIn_of_wp_marks Tryz.func171 rfl trivial ?_ rfl
 simp only [Tryz.ntmps171, List.size_toArray, List.length_cons, List.length_nil, Nat.reduceAdd, Nat.reduceSub, Array.replicate_succ, Array.replicate_zero, List.push_toArray, List.append_toArray, List.nil_append, List.cons_append]
 gi_wp2
 have bL := Boxed.new w 155 (.slice none 0 0)
 have hB0 : Below w.heap.size w (w.alloc (.cells #[.slice none 0 0] 155)) := (Below.refl _ w).alloc (Nat.le_refl _) _
 have hsz0 : (w.alloc (.cells #[.slice none 0 0] 155)).heap.size = w.heap.size + 1 := by simp
 generalize (w.alloc (.cells #[.slice none 0 0] 155)) = W0 at *
 have hRow : OwnFrom W0.heap.size (fun (pre : List Int) W => ∃ v, Boxed W w.heap.size 155 v /\ W.ownsRow w.heap.size 27 1 v pre.length (pre.map (Value.int .u32)) /\ True) := Own.from (holdsRow_own w.heap.size w.heap.size 155 27 1 (fun pre : List Int => pre.length) (fun pre => pre.map (Value.int .u32)) (fun _ _ => True)) _
 have hBel : OwnFrom (β := List Int) W0.heap.size (fun _ W => Below w.heap.size w W) := ownFrom_below (Nat.le_refl _) (by rw [hsz0]; omega)
 refine wpIn_rangeFunc_ownG rfl (by omega) (gf := 178) (lb := #[.pointer (some ⟨Bk, 0, none⟩), .pointer (some ⟨Bf, 0, none⟩)]) rfl trivial (enters_of Tryz.func178 (by kernel_rfl) rfl)
  (codes_stops 4 (by omega) Bk Bf w.heap.size kind first h0 h1 W0 hBk hBf (by rw [hsz0]; omega) ((hB0.cell (p := ⟨Bk, 0, none⟩) hBk).trans hck) ((hB0.cell (p := ⟨Bf, 0, none⟩) hBf).trans hcf)) belowK_t (belowK_b (by rw [hsz0]; omega)) (Below.refl _ _) (fun _ => rfl)
  (fun pre W => (∃ v, Boxed W w.heap.size 155 v /\ W.ownsRow w.heap.size 27 1 v pre.length (pre.map (Value.int .u32)) /\ True) /\ Below w.heap.size w W)
  (fun _ _ _ => False)
  (fun s A B row hs hg hr => ⟨hRow s A B row hs.1 hg hr, hBel s A B row hs.2 hg hr⟩)
  (fun _ _ _ _ _ hs _ _ => hs)
  ⟨⟨_, bL, World.ownsRow_nil _ _ _ _, trivial⟩, hB0⟩
  (fun x => { tmps := #[.slice none 0 0, .func (.func 178) #[] #[.pointer (some ⟨Bk, 0, none⟩), .pointer (some ⟨Bf, 0, none⟩)], .pointer (some ⟨w.heap.size, 0, none⟩), undef, .slice none 0 0, .int .u32 x, .func (.func 178) #[] #[.pointer (some ⟨Bk, 0, none⟩), .pointer (some ⟨Bf, 0, none⟩)], .int .u32 x, undef, undef, undef, undef, undef], defers := [] }) ?assign ?body ?done ?stop
 case assign =>
  intro l x W K hK
  gi_wp2
  exact hK
 case body =>
  rintro l pre x W ⟨⟨v, hv, hrow, _⟩, hB⟩ hlt
  obtain ⟨A, c, rfl⟩ := Kd.R_slice (row_u32 hrow)
  have hc := hv.cell
  gi_wp2_with (gi_at_builtin; refine wpListIn_append_own _ rfl _ _ 155 rfl w.heap.size 27 i0 (.int .u32 0) 1 4 Tryz.underlying155 hi hz0 hz1 hz2 rfl (by decide) _ _ _ rfl (hrow.alloc _) ⟨W.heap.size, 0, none⟩ 1 1 [.int .u32 x] rfl rfl (cell_one_new _ _ _) (by simp [Value.oneCell']) (by simp only [maxLen]; omega) (by omega) (by have := hB.size; simp; omega) ?_; intro v' w1 hown' hgrow _; obtain ⟨g', cap', rfl⟩ := ownsRow_succ hown'; obtain ⟨hv1, hv2, hr2, hk2, hb2⟩ := hv.appended (by decide) hrow hB.size (by omega) hown' hgrow; have hc1 := hv1.cell; have hf1 := hv1.frozen)
  exact ⟨hk2.from _, hb2, ⟨_, hv2, by simpa using hr2⟩, hB.trans hb2⟩
 case done =>
  rintro D ys W hD rfl ⟨⟨v, hv, hrow, _⟩, hB⟩ hK
  have hc := hv.cell
  gi_wp2
  refine ⟨by simp, .inl ⟨_, _, rfl, run_takeDeferred hK, ?_⟩⟩
  refine ⟨_, results_tmp rfl _ _ _, v, rfl, ?_, hB.trans (belowK_b (w := w) (Nat.le_refl _) W D _ _ (by omega) hK rfl rfl)⟩
  exact row_u32 (ownsRow_putObj hrow _ hK rfl)
 case stop =>
  rintro D c pre W _ _ h _
  exact h.elim
theorem collect_walk (Bk Bf : Nat) (kind first : Int) (h0 : 0 <= first) (h1 : first + 64 < 4294967296) (w : World) (hBk : Bk < w.heap.size) (hBf : Bf < w.heap.size)
 (hck : w.cell? ⟨Bk, 0, none⟩ = some (.int .i64 kind)) (hcf : w.cell? ⟨Bf, 0, none⟩ = some (.int .u32 first)) :
 Calls Tryz.prog 154 #[.func (.func 178) #[] #[.pointer (some ⟨Bk, 0, none⟩), .pointer (some ⟨Bf, 0, none⟩)]] w fun e w' => ∃ v, e = .returned v /\ Kd.R (Kd.int .u32) 27 w' w.heap.size (fun _ => True) v (codesL kind first) /\ Below w.heap.size w w' := by
 have ca := Lib.hid (append_walk Bk Bf kind first h0 h1 w hBk hBf hck hcf)
 clear hck hcf
 go_enter Tryz.func154, Tryz.ntmps154
 go_wp2_with (first | (go_at_call 171; refine ca.out.mono ?_; rintro e v ⟨u, rfl, hr, hb⟩) | fail)
 go_ret
 exact ⟨_, rfl, hr, hb⟩
theorem keep3 {w W v : World} {a b : Addr} {x y : Value} (h1 : W.cell? a = some x) (h2 : W.cell? b = some y) (h3 : Zz (Below w.heap.size w W)) (hb : Below W.heap.size W v) : v.cell? a = some x /\ v.cell? b = some y /\ Zz (Below w.heap.size w v) := ⟨pw_cell_below hb h1, pw_cell_below hb h2, ⟨h3.out.trans (hb.mono h3.out.size)⟩⟩
def isName (k : Int) (name : ByteArray) (c : Int) : Bool := decide (nameS k c = name)
theorem pred_walk (Bk Bn : Nat) (k : Int) (name : ByteArray) (c : Int) (g0 : 0 <= c) (g1 : c < 4294967296) (w : World)
 (hck : w.cell? ⟨Bk, 0, none⟩ = some (.int .i64 k)) (hcn : w.cell? ⟨Bn, 0, none⟩ = some (.string name)) :
 Calls Tryz.prog 156 #[.int .u32 c, .pointer (some ⟨Bk, 0, none⟩), .pointer (some ⟨Bn, 0, none⟩)] w fun e w' => e = .returned (.bool (isName k name c)) /\ Below w.heap.size w w' := by
 have Cn := fun W => c_Name k c W g0 g1
 have hlk := World.block_lt_of_cell? w _ hck
 have hln := World.block_lt_of_cell? w _ hcn
 simp only at hlk hln
 have HB := Zz.mk (Below.refl w.heap.size w)
 unfold isName
 by_cases hq : nameS k c = name
 · rw [decide_eq_true hq]
   rw [hq] at Cn
   have cn := Lib.hid Cn
   clear Cn hq
   go_enter Tryz.func156, Tryz.ntmps156
   go_wp2
   go_region_held3 (fun W => W.cell? ⟨Bk, 0, none⟩ = some (.int .i64 k) /\ W.cell? ⟨Bn, 0, none⟩ = some (.string name) /\ Zz (Below w.heap.size w W))
    (first
      | exact ⟨by simpa using hck, by simpa using hcn, ⟨HB.out.drew⟩⟩
      | (go_split_ands
         exact keep3 (by assumption) (by assumption) (by assumption) hbz))
    (first
      | (go_simp
         go_at_call 139
         refine (cn.out _).mono ?_
         rintro e v1 ⟨rfl, hbz⟩))
   all_goals
    go_wp2
    go_ret
    go_split_ands
    exact ⟨rfl, Zz.out (by assumption)⟩
 · rw [decide_eq_false hq]
   have te := str_ne hq
   generalize nameS k c = nm at *
   have cn := Lib.hid Cn
   clear Cn hq
   go_enter Tryz.func156, Tryz.ntmps156
   go_wp2
   go_region_held3 (fun W => W.cell? ⟨Bk, 0, none⟩ = some (.int .i64 k) /\ W.cell? ⟨Bn, 0, none⟩ = some (.string name) /\ Zz (Below w.heap.size w W))
    (first
      | exact ⟨by simpa using hck, by simpa using hcn, ⟨HB.out.drew⟩⟩
      | (go_split_ands
         exact keep3 (by assumption) (by assumption) (by assumption) hbz))
    (first
      | (go_simp
         go_at_call 139
         refine (cn.out _).mono ?_
         rintro e v1 ⟨rfl, hbz⟩))
   all_goals
    go_wp2
    go_ret
    go_split_ands
    exact ⟨rfl, Zz.out (by assumption)⟩
theorem indexF_walk (A : Option Addr) (cp : Nat) (L : List Int) (Bk Bn : Nat) (k : Int) (name : ByteArray) (w : World) (hA : Kd.C (Kd.int .u32) w A L.length L) (hl : L.length <= 1048576) (hc : L.length <= cp) (hr : ∀ x ∈ L, 0 <= x /\ x < 4294967296)
 (hck : w.cell? ⟨Bk, 0, none⟩ = some (.int .i64 k)) (hcn : w.cell? ⟨Bn, 0, none⟩ = some (.string name)) :
 Calls Tryz.prog 155 #[.slice A L.length cp, .func (.func 156) #[] #[.pointer (some ⟨Bk, 0, none⟩), .pointer (some ⟨Bn, 0, none⟩)]] w fun e w' => (∃ r : Int, e = .returned (.int .i64 r) /\ ((r = -1 /\ ∀ x ∈ L, isName k name x = false) \/ (∃ i : Nat, r = (i : Int) /\ i < L.length /\ isName k name (L.getD i 0) = true /\ ∀ x ∈ L.take i, isName k name x = false))) /\ Below w.heap.size w w' := by
 have HA := Zz.mk hA
 have HR := Zz.mk hr
 have HK := Zz.mk hck
 have HN := Zz.mk hcn
 clear hA hr hck hcn
 go_enter Tryz.func155, Tryz.ntmps155
 go_wp2
 go_loopw [8] (fun v8 wr => ∃ i : Nat, i <= L.length /\ v8 = .int .i64 (i : Int) /\ Zz (∀ x ∈ L.take i, isName k name x = false) /\ Zz (Below w.heap.size w wr)) (fun v8 _ => L.length - (intOf v8).toNat)
 case atStart => exact ⟨0, by omega, rfl, ⟨by simp⟩, ⟨Below.refl _ _⟩⟩
 case round =>
  obtain ⟨i, hi, rfl, hE, hW⟩ := hrel
  by_cases hlt : i < L.length
  · have hti : (i : Int) < (L.length : Int) := by omega
    obtain ⟨ad1, ea1, hx1⟩ := Kd.at_int (Kd.C_below HA.out hW.out) (i : Int) (by omega) hti
    subst ea1
    rw [Int.toNat_natCast] at hx1
    have hn1 : rd L (i : Int) = L.getD i 0 := rfl
    rw [hn1] at hx1
    have HS := Zz.mk (take_snoc L i hlt)
    have hm : L.getD i 0 ∈ L := by rw [List.getD_eq_getElem?_getD, List.getElem?_eq_getElem hlt]; exact List.getElem_mem hlt
    have hrg := HR.out _ hm
    have cp1 := Lib.hid (pred_walk Bk Bn k name (L.getD i 0) hrg.1 hrg.2 wr ((hW.out.cell (World.block_lt_of_cell? w _ HK.out)).trans HK.out) ((hW.out.cell (World.block_lt_of_cell? w _ HN.out)).trans HN.out))
    clear hn1 hrg hm
    by_cases hp : isName k name (L.getD i 0) = true
    · have CP := cp1.out
      rw [hp] at CP
      have cp1 := Lib.hid CP
      have HP := Zz.mk hp
      clear CP hp HS
      generalize hgx : L.getD i 0 = x at *
      have HG := Zz.mk hgx
      clear hgx
      go_wp2_with (first
       | (go_at_call 156
          refine cp1.out.mono ?_
          rintro e v ⟨rfl, hb⟩)
       | fail)
      go_ret
      exact ⟨⟨_, rfl, .inr ⟨i, rfl, hlt, by rw [HG.out]; exact HP.out, hE.out⟩⟩, hW.out.trans (hb.mono hW.out.size)⟩
    · have hpf : isName k name (L.getD i 0) = false := by simpa using hp
      have CP := cp1.out
      rw [hpf] at CP
      have cp1 := Lib.hid CP
      have HN2 := Zz.mk (show ∀ x ∈ L.take (i + 1), isName k name x = false by
       rw [HS.out]
       intro x hx
       rcases List.mem_append.1 hx with hx | hx
       · exact hE.out x hx
       · simp only [List.mem_cons, List.not_mem_nil, or_false] at hx
         subst hx
         exact hpf)
      clear CP hp hpf HS
      generalize L.getD i 0 = x at *
      go_wp2_with (first
       | (go_at_call 156
          refine cp1.out.mono ?_
          rintro e v ⟨rfl, hb⟩
          have HW2 := Zz.mk (hW.out.trans (hb.mono hW.out.size))
          clear hb)
       | fail)
      go_roundw
      case rel => exact ⟨i + 1, by omega, by go_num, HN2, HW2⟩
      case measure => simp [intOf]; omega
  · obtain rfl : i = L.length := by omega
    have hE2 := Zz.mk (show ∀ x ∈ L, isName k name x = false by have := hE.out; rwa [List.take_of_length_le (Nat.le_refl _)] at this)
    clear hE
    go_wp2
    go_ret
    exact ⟨⟨_, rfl, .inl ⟨rfl, hE2.out⟩⟩, hW.out⟩
def pLmots : ByteArray := ⟨#[76, 77, 79, 84, 83, 95]⟩
def pLms : ByteArray := ⟨#[76, 77, 83, 95]⟩
def kindOf (name : ByteArray) : Int := if prefS name pLmots = true then 1 else if prefS name pLms = true then 2 else 3
def codeS (name : ByteArray) : Int × Int × Int :=
 if plainS name = false then (0, 0, 60) else match (codesOf (kindOf name)).find? (isName (kindOf name) name) with
  | none => (0, 0, 60)
  | some c => (kindOf name, c, 0)
theorem krow {W v : World} {b : Nat} {o : Obj} (h : W.heap[b]? = some o) (hb : Below W.heap.size W v) : v.heap[b]? = some o := (hb.block b (Array.getElem?_eq_some_iff.1 h).1).trans h
theorem knew {W : World} {b : Nat} {o o' : Obj} (h : W.heap[b]? = some o) : (W.alloc o').heap[b]? = some o := (Below.heap_alloc W o' b (Array.getElem?_eq_some_iff.1 h).1).trans h
theorem kset {W : World} {b g : Nat} {o : Obj} {u : Value} (h : W.heap[b]? = some o) (hne : b ≠ g) : (W.setCell ⟨g, 0, none⟩ u).heap[b]? = some o := (Below.heap_setCell W ⟨g, 0, none⟩ u b hne).trans h
theorem find_at (p : Int -> Bool) : ∀ (L : List Int) (i : Nat), i < L.length -> p (L.getD i 0) = true -> (∀ x ∈ L.take i, p x = false) -> L.find? p = some (L.getD i 0)
 | [], i, h, _, _ => by simp at h
 | x :: L, 0, h, hp, _ => by
   have : p x = true := by simpa using hp
   simp [this]
 | x :: L, i + 1, h, hp, hf => by
   have hx : p x = false := hf x (by simp)
   rw [List.find?_cons, hx]
   have := find_at p L i (by simpa using h) (by simpa using hp) (fun y hy => hf y (by simp [hy]))
   simpa using this
theorem find_none (p : Int -> Bool) (L : List Int) (h : ∀ x ∈ L, p x = false) : L.find? p = none := by
 rw [List.find?_eq_none]
 intro x hx
 rw [h x hx]
 decide
theorem codesOf_bd (k : Int) (h : k = 1 \/ k = 2 \/ k = 3) : ∀ x ∈ codesOf k, 0 <= x /\ x < 4294967296 := by
 rcases h with rfl | rfl | rfl <;> decide +kernel
def ansS (k : Int) (name : ByteArray) : Int × Int × Int := match (codesOf k).find? (isName k name) with
 | none => (0, 0, 60)
 | some c => (k, c, 0)
theorem codeS_eq (name : ByteArray) (h : plainS name = true) : codeS name = ansS (kindOf name) name := by
 unfold codeS ansS
 rw [if_neg (by rw [h]; decide)]
theorem indexF_ans (A : Option Addr) (cp : Nat) (Bk Bn : Nat) (k : Int) (hk : k = 1 \/ k = 2 \/ k = 3) (name : ByteArray) (w : World) (hA : Kd.C (Kd.int .u32) w A (codesOf k).length (codesOf k)) (hc : (codesOf k).length <= cp)
 (hck : w.cell? ⟨Bk, 0, none⟩ = some (.int .i64 k)) (hcn : w.cell? ⟨Bn, 0, none⟩ = some (.string name)) :
 Calls Tryz.prog 155 #[.slice A (codesOf k).length cp, .func (.func 156) #[] #[.pointer (some ⟨Bk, 0, none⟩), .pointer (some ⟨Bn, 0, none⟩)]] w fun e w' => (∃ r : Int, e = .returned (.int .i64 r) /\ ((r = -1 /\ ansS k name = (0, 0, 60)) \/ (∃ i : Nat, r = (i : Int) /\ i < (codesOf k).length /\ ansS k name = (k, (codesOf k).getD i 0, 0)))) /\ Below w.heap.size w w' := by
 have hl : (codesOf k).length <= 89 := by unfold codesOf; rw [if_pos hk]; exact codesL_len _ _
 refine (indexF_walk A cp (codesOf k) Bk Bn k name w hA (by omega) hc (codesOf_bd k hk) hck hcn).mono ?_
 rintro e v ⟨⟨r, rfl, h⟩, hb⟩
 refine ⟨⟨r, rfl, ?_⟩, hb⟩
 rcases h with ⟨h1, h2⟩ | ⟨i, h1, h2, h3, h4⟩
 · exact .inl ⟨h1, by unfold ansS; rw [find_none _ _ h2]⟩
 · exact .inr ⟨i, h1, h2, by unfold ansS; rw [find_at _ _ i h2 h3 h4]⟩
theorem c_Code (name : ByteArray) (w : World) (hs : name.size <= 140737488351232) :
 Calls Tryz.prog 127 #[.string name] w fun e w' => e = .returned (.tuple #[.int .i64 (codeS name).1, .int .u32 (codeS name).2.1, .int .i64 (codeS name).2.2]) /\ Below w.heap.size w w' := by
 obtain ⟨U, hU⟩ : ∃ U, codeS name = U := ⟨_, rfl⟩
 have HU := Lib.hid hU
 rw [hU]
 clear hU
 cases hpl : plainS name with
 | false =>
   have CP := fun W => c_plain name W hs
   rw [hpl] at CP
   have cp := Lib.hid CP
   obtain rfl : U = (0, 0, 60) := by rw [<- HU.out]; unfold codeS; rw [if_pos hpl]
   clear CP hpl
   go_enter Tryz.func127, Tryz.ntmps127
   go_wp2_with (first
    | (go_at_call 149; refine (c_XmssCodes _).mono ?_; rintro e v ⟨rfl, rfl⟩)
    | (go_at_call 150
       refine (cp.out _).mono ?_
       rintro e v1 ⟨rfl, hb⟩
       have q0 := World.alloc_heap_new w (.cells #[.string name] 9)
       have q1 := World.alloc_heap_new (w.alloc (.cells #[.string name] 9)) (.cells #[.int .i64 3] 3)
       have q2 := World.alloc_heap_new ((w.alloc (.cells #[.string name] 9)).alloc (.cells #[.int .i64 3] 3)) (.cells #[.int .u32 4043309056] 27)
       have q3 := World.alloc_heap_new (((w.alloc (.cells #[.string name] 9)).alloc (.cells #[.int .i64 3] 3)).alloc (.cells #[.int .u32 4043309056] 27)) (.cells #[.int .i64 3] 3)
       simp only [World.size_alloc] at q1 q2 q3
       have HN := Zz.mk (krow (knew (knew (knew q0))) hb)
       have HX1 := Zz.mk (krow (knew (knew q1)) hb)
       have HX2 := Zz.mk (krow (knew q2) hb)
       have HKB := Zz.mk (krow q3 hb)
       have hcn := blk_cell HN.out 0
       have hck := blk_cell HKB.out 0
       have hfk := blk_free HKB.out 0
       have hz : w.heap.size + 3 < v1.heap.size := by have := hb.size; simp at this; omega
       have HB1 : Zz (Below w.heap.size w v1) := ⟨(((((Below.refl _ w).alloc (Nat.le_refl _) (.cells #[.string name] 9)).alloc (by simp) (.cells #[.int .i64 3] 3)).alloc (by simp; omega) (.cells #[.int .u32 4043309056] 27)).alloc (by simp; omega) (.cells #[.int .i64 3] 3)).trans (hb.mono (by simp; omega))⟩
       clear q0 q1 q2 q3 hb)
    | fail)
   exact bodyPost_ret (v := .tuple #[.int .i64 0, .int .u32 0, .int .i64 60]) (by simp [results, Tryz.results127, go_sem]) rfl ⟨rfl, HB1.out⟩
 | true =>
   have CP := fun W => c_plain name W hs
   rw [hpl] at CP
   have cp := Lib.hid CP
   have hUe := HU.out
   rw [codeS_eq name hpl] at hUe
   have PR1 := fun W => c_HasPrefix name ⟨#[76, 77, 79, 84, 83, 95]⟩ W hs (by decide)
   have PR2 := fun W => c_HasPrefix name ⟨#[76, 77, 83, 95]⟩ W hs (by decide)
   clear CP hpl
   cases h1 : prefS name pLmots with
   | true =>
     rw [show kindOf name = 1 by unfold kindOf; rw [if_pos h1]] at hUe
     rw [show prefS name ⟨#[76, 77, 79, 84, 83, 95]⟩ = true from h1] at PR1
     have pr1 := Lib.hid PR1
     have pr2 := Lib.hid PR2
     have HUE := Zz.mk hUe
     have CC := fun Bk Bf W h1 h2 h3 h4 => collect_walk Bk Bf 1 4026531840 (by decide) (by decide) W h1 h2 h3 h4
     rw [show codesL 1 4026531840 = codesOf 1 from rfl] at CC
     have CI := fun A cp Bk Bn W h1 h2 h3 h4 => indexF_ans A cp Bk Bn 1 (by decide) name W h1 h2 h3 h4
     have hlen : (codesOf 1).length <= 89 := codesL_len _ _
     generalize codesOf 1 = L at *
     generalize ansS 1 name = an at *
     have cc := Lib.hid CC
     have ci := Lib.hid CI
     clear h1 PR1 PR2 hUe CC CI
     go_enter Tryz.func127, Tryz.ntmps127
     go_wp2_with (first
      | (go_at_call 149; refine (c_XmssCodes _).mono ?_; rintro e v ⟨rfl, rfl⟩)
      | (go_at_call 150
         refine (cp.out _).mono ?_
         rintro e v1 ⟨rfl, hb⟩
         have q0 := World.alloc_heap_new w (.cells #[.string name] 9)
         have q1 := World.alloc_heap_new (w.alloc (.cells #[.string name] 9)) (.cells #[.int .i64 3] 3)
         have q2 := World.alloc_heap_new ((w.alloc (.cells #[.string name] 9)).alloc (.cells #[.int .i64 3] 3)) (.cells #[.int .u32 4043309056] 27)
         have q3 := World.alloc_heap_new (((w.alloc (.cells #[.string name] 9)).alloc (.cells #[.int .i64 3] 3)).alloc (.cells #[.int .u32 4043309056] 27)) (.cells #[.int .i64 3] 3)
         simp only [World.size_alloc] at q1 q2 q3
         have HN := Zz.mk (krow (knew (knew (knew q0))) hb)
         have HX1 := Zz.mk (krow (knew (knew q1)) hb)
         have HX2 := Zz.mk (krow (knew q2) hb)
         have HKB := Zz.mk (krow q3 hb)
         have hcn := blk_cell HN.out 0
         have hck := blk_cell HKB.out 0
         have hfk := blk_free HKB.out 0
         have hz : w.heap.size + 3 < v1.heap.size := by have := hb.size; simp at this; omega
         have HB1 : Zz (Below w.heap.size w v1) := ⟨(((((Below.refl _ w).alloc (Nat.le_refl _) (.cells #[.string name] 9)).alloc (by simp) (.cells #[.int .i64 3] 3)).alloc (by simp; omega) (.cells #[.int .u32 4043309056] 27)).alloc (by simp; omega) (.cells #[.int .i64 3] 3)).trans (hb.mono (by simp; omega))⟩
         clear q0 q1 q2 q3 hb)
      | (go_at_call 151
         first
         | (with_reducible refine (pr1.out _).mono ?_
            rintro e v ⟨rfl, hv⟩
            obtain rfl := hv.symm
            clear hv)
         | (with_reducible refine (pr2.out _).mono ?_
            rintro e v ⟨rfl, hv⟩
            obtain rfl := hv.symm
            clear hv))
      | (go_at_call 152
         refine (c_OtsCodes _).mono ?_
         rintro e v ⟨rfl, rfl⟩
         have p4 := World.alloc_heap_new v1 (.cells #[.int .i64 1] 3)
         have p5 := World.alloc_heap_new (v1.alloc (.cells #[.int .i64 1] 3)) (.cells #[.int .u32 4026531840] 27)
         rw [World.size_alloc] at p5
         have HY1 := Zz.mk (kset (g := w.heap.size + 1 + 1 + 1) (u := .int .i64 1) (knew (o' := .cells #[.int .u32 4026531840] 27) p4) (by omega))
         have HY2 := Zz.mk (kset (g := w.heap.size + 1 + 1 + 1) (u := .int .i64 1) p5 (by omega))
         have HN1 := Zz.mk (kset (g := w.heap.size + 1 + 1 + 1) (u := .int .i64 1) (knew (o' := .cells #[.int .u32 4026531840] 27) (knew (o' := .cells #[.int .i64 1] 3) HN.out)) (by omega))
         have HK1 := Zz.mk (blk_set (knew (o' := .cells #[.int .u32 4026531840] 27) (knew (o' := .cells #[.int .i64 1] 3) HKB.out)) 0 (.int .i64 1))
         have HBs : Zz (Below w.heap.size w (((v1.alloc (.cells #[.int .i64 1] 3)).alloc (.cells #[.int .u32 4026531840] 27)).setCell ⟨w.heap.size + 1 + 1 + 1, 0, none⟩ (.int .i64 1))) := ⟨((HB1.out.alloc (by omega) _).alloc (by simp; omega) _).setCell (by show w.heap.size <= w.heap.size + 1 + 1 + 1; omega) _⟩
         have hcW : ((v1.alloc (.cells #[.int .i64 1] 3)).alloc (.cells #[.int .u32 4026531840] 27)).cell? ⟨w.heap.size + 1 + 1 + 1, 0, none⟩ = some (.int .i64 3) := blk_cell (knew (o' := .cells #[.int .u32 4026531840] 27) (knew (o' := .cells #[.int .i64 1] 3) HKB.out)) 0
         have hfW : ((v1.alloc (.cells #[.int .i64 1] 3)).alloc (.cells #[.int .u32 4026531840] 27)).frozen? ⟨w.heap.size + 1 + 1 + 1, 0, none⟩ = false := blk_free (knew (o' := .cells #[.int .u32 4026531840] 27) (knew (o' := .cells #[.int .i64 1] 3) HKB.out)) 0
         clear p4  p5)
      | (go_at_call 154
         refine (cc.out v1.heap.size (v1.heap.size + 1) (((v1.alloc (.cells #[.int .i64 1] 3)).alloc (.cells #[.int .u32 4026531840] 27)).setCell ⟨w.heap.size + 1 + 1 + 1, 0, none⟩ (.int .i64 1)) (by simp; omega) (by simp) (blk_cell HY1.out 0) (blk_cell HY2.out 0)).mono ?_
         rintro e v2 ⟨u2, rfl, hr, hb⟩
         obtain ⟨A2, c2, rfl, hl2, hC2⟩ := Kd.R_reads hr
         have HC2 := Zz.mk hC2
         have HL2 := Zz.mk hl2
         have HN2 := Zz.mk (krow HN1.out hb)
         have HK2 := Zz.mk (krow HK1.out hb)
         have HB2 := Zz.mk (HBs.out.trans (hb.mono HBs.out.size))
         clear hr hC2 hl2 hb)
      | (go_at_call 155
         refine (ci.out A2 c2 (w.heap.size + 1 + 1 + 1) w.heap.size v2 HC2.out HL2.out (blk_cell HK2.out 0) (blk_cell HN2.out 0)).mono ?_
         rintro e v3 ⟨⟨r, rfl, h⟩, hb⟩
         have HC3 := Zz.mk (Kd.C_below HC2.out hb)
         have HB3 := Zz.mk (HB2.out.trans (hb.mono HB2.out.size))
         have hck3 : v3.cell? ⟨w.heap.size + 1 + 1 + 1, 0, none⟩ = some (.int .i64 1) := blk_cell (krow HK2.out hb) 0
         have HH := Zz.mk h
         clear h hb)
      | fail)
     · have hr : r < 0 := by assumption
       have hU2 : U = (0, 0, 60) := by
        rw [<- HUE.out]
        rcases HH.out with ⟨_, ha⟩ | ⟨i, hri, _, _⟩
        · exact ha
        · exact absurd hr (by omega)
       subst hU2
       exact bodyPost_ret (v := .tuple #[.int .i64 0, .int .u32 0, .int .i64 60]) (by simp [results, Tryz.results127, go_sem]) rfl ⟨rfl, HB3.out⟩
     · have hr : 0 <= r := by assumption
       obtain ⟨i, hri, hil, ha⟩ := HH.out.resolve_left (fun h => by omega)
       obtain ⟨x, hgx⟩ : ∃ x, L.getD i 0 = x := ⟨_, rfl⟩
       rw [hgx] at ha
       have hU2 : U = (1, x, 0) := by rw [<- HUE.out]; exact ha
       subst hU2
       subst hri
       have hti : (i : Int) < (L.length : Int) := by omega
       obtain ⟨ad1, ea1, hx1⟩ := Kd.at_int HC3.out (i : Int) (by omega) hti
       subst ea1
       rw [Int.toNat_natCast] at hx1
       have hn1 : rd L (i : Int) = L.getD i 0 := rfl
       rw [hn1, hgx] at hx1
       clear hn1 ha HH HUE hgx
       go_wp2
       go_quiet (fail)
       go_wp2
       exact bodyPost_ret (v := .tuple #[.int .i64 1, .int .u32 x, .int .i64 0]) (by simp [results, Tryz.results127, go_sem]) rfl ⟨rfl, below_drewN' HB3.out nq⟩
   | false =>
     cases h2 : prefS name pLms with
     | true =>
       rw [show kindOf name = 2 by unfold kindOf; rw [if_neg (by rw [h1]; decide), if_pos h2]] at hUe
       rw [show prefS name ⟨#[76, 77, 79, 84, 83, 95]⟩ = false from h1] at PR1
       rw [show prefS name ⟨#[76, 77, 83, 95]⟩ = true from h2] at PR2
       have pr1 := Lib.hid PR1
       have pr2 := Lib.hid PR2
       have HUE := Zz.mk hUe
       have CC := fun Bk Bf W h1 h2 h3 h4 => collect_walk Bk Bf 2 4026531840 (by decide) (by decide) W h1 h2 h3 h4
       rw [show codesL 2 4026531840 = codesOf 2 from rfl] at CC
       have CI := fun A cp Bk Bn W h1 h2 h3 h4 => indexF_ans A cp Bk Bn 2 (by decide) name W h1 h2 h3 h4
       have hlen : (codesOf 2).length <= 89 := codesL_len _ _
       generalize codesOf 2 = L at *
       generalize ansS 2 name = an at *
       have cc := Lib.hid CC
       have ci := Lib.hid CI
       clear h1 h2 PR1 PR2 hUe CC CI
       go_enter Tryz.func127, Tryz.ntmps127
       go_wp2_with (first
        | (go_at_call 149; refine (c_XmssCodes _).mono ?_; rintro e v ⟨rfl, rfl⟩)
        | (go_at_call 150
           refine (cp.out _).mono ?_
           rintro e v1 ⟨rfl, hb⟩
           have q0 := World.alloc_heap_new w (.cells #[.string name] 9)
           have q1 := World.alloc_heap_new (w.alloc (.cells #[.string name] 9)) (.cells #[.int .i64 3] 3)
           have q2 := World.alloc_heap_new ((w.alloc (.cells #[.string name] 9)).alloc (.cells #[.int .i64 3] 3)) (.cells #[.int .u32 4043309056] 27)
           have q3 := World.alloc_heap_new (((w.alloc (.cells #[.string name] 9)).alloc (.cells #[.int .i64 3] 3)).alloc (.cells #[.int .u32 4043309056] 27)) (.cells #[.int .i64 3] 3)
           simp only [World.size_alloc] at q1 q2 q3
           have HN := Zz.mk (krow (knew (knew (knew q0))) hb)
           have HX1 := Zz.mk (krow (knew (knew q1)) hb)
           have HX2 := Zz.mk (krow (knew q2) hb)
           have HKB := Zz.mk (krow q3 hb)
           have hcn := blk_cell HN.out 0
           have hck := blk_cell HKB.out 0
           have hfk := blk_free HKB.out 0
           have hz : w.heap.size + 3 < v1.heap.size := by have := hb.size; simp at this; omega
           have HB1 : Zz (Below w.heap.size w v1) := ⟨(((((Below.refl _ w).alloc (Nat.le_refl _) (.cells #[.string name] 9)).alloc (by simp) (.cells #[.int .i64 3] 3)).alloc (by simp; omega) (.cells #[.int .u32 4043309056] 27)).alloc (by simp; omega) (.cells #[.int .i64 3] 3)).trans (hb.mono (by simp; omega))⟩
           clear q0 q1 q2 q3 hb)
        | (go_at_call 151
           first
           | (with_reducible refine (pr1.out _).mono ?_
              rintro e v ⟨rfl, hv⟩
              obtain rfl := hv.symm
              clear hv)
           | (with_reducible refine (pr2.out _).mono ?_
              rintro e v ⟨rfl, hv⟩
              obtain rfl := hv.symm
              clear hv))
        | (go_at_call 153
           refine (c_LmsCodes _).mono ?_
           rintro e v ⟨rfl, rfl⟩
           have p4 := World.alloc_heap_new v1 (.cells #[.int .i64 2] 3)
           have p5 := World.alloc_heap_new (v1.alloc (.cells #[.int .i64 2] 3)) (.cells #[.int .u32 4026531840] 27)
           rw [World.size_alloc] at p5
           have HY1 := Zz.mk (kset (g := w.heap.size + 1 + 1 + 1) (u := .int .i64 2) (knew (o' := .cells #[.int .u32 4026531840] 27) p4) (by omega))
           have HY2 := Zz.mk (kset (g := w.heap.size + 1 + 1 + 1) (u := .int .i64 2) p5 (by omega))
           have HN1 := Zz.mk (kset (g := w.heap.size + 1 + 1 + 1) (u := .int .i64 2) (knew (o' := .cells #[.int .u32 4026531840] 27) (knew (o' := .cells #[.int .i64 2] 3) HN.out)) (by omega))
           have HK1 := Zz.mk (blk_set (knew (o' := .cells #[.int .u32 4026531840] 27) (knew (o' := .cells #[.int .i64 2] 3) HKB.out)) 0 (.int .i64 2))
           have HBs : Zz (Below w.heap.size w (((v1.alloc (.cells #[.int .i64 2] 3)).alloc (.cells #[.int .u32 4026531840] 27)).setCell ⟨w.heap.size + 1 + 1 + 1, 0, none⟩ (.int .i64 2))) := ⟨((HB1.out.alloc (by omega) _).alloc (by simp; omega) _).setCell (by show w.heap.size <= w.heap.size + 1 + 1 + 1; omega) _⟩
           have hcW : ((v1.alloc (.cells #[.int .i64 2] 3)).alloc (.cells #[.int .u32 4026531840] 27)).cell? ⟨w.heap.size + 1 + 1 + 1, 0, none⟩ = some (.int .i64 3) := blk_cell (knew (o' := .cells #[.int .u32 4026531840] 27) (knew (o' := .cells #[.int .i64 2] 3) HKB.out)) 0
           have hfW : ((v1.alloc (.cells #[.int .i64 2] 3)).alloc (.cells #[.int .u32 4026531840] 27)).frozen? ⟨w.heap.size + 1 + 1 + 1, 0, none⟩ = false := blk_free (knew (o' := .cells #[.int .u32 4026531840] 27) (knew (o' := .cells #[.int .i64 2] 3) HKB.out)) 0
           clear p4 p5)
        | (go_at_call 154
           refine (cc.out v1.heap.size (v1.heap.size + 1) (((v1.alloc (.cells #[.int .i64 2] 3)).alloc (.cells #[.int .u32 4026531840] 27)).setCell ⟨w.heap.size + 1 + 1 + 1, 0, none⟩ (.int .i64 2)) (by simp; omega) (by simp) (blk_cell HY1.out 0) (blk_cell HY2.out 0)).mono ?_
           rintro e v2 ⟨u2, rfl, hr, hb⟩
           obtain ⟨A2, c2, rfl, hl2, hC2⟩ := Kd.R_reads hr
           have HC2 := Zz.mk hC2
           have HL2 := Zz.mk hl2
           have HN2 := Zz.mk (krow HN1.out hb)
           have HK2 := Zz.mk (krow HK1.out hb)
           have HB2 := Zz.mk (HBs.out.trans (hb.mono HBs.out.size))
           clear hr hC2 hl2 hb)
        | (go_at_call 155
           refine (ci.out A2 c2 (w.heap.size + 1 + 1 + 1) w.heap.size v2 HC2.out HL2.out (blk_cell HK2.out 0) (blk_cell HN2.out 0)).mono ?_
           rintro e v3 ⟨⟨r, rfl, h⟩, hb⟩
           have HC3 := Zz.mk (Kd.C_below HC2.out hb)
           have HB3 := Zz.mk (HB2.out.trans (hb.mono HB2.out.size))
           have hck3 : v3.cell? ⟨w.heap.size + 1 + 1 + 1, 0, none⟩ = some (.int .i64 2) := blk_cell (krow HK2.out hb) 0
           have HH := Zz.mk h
           clear h hb)
        | fail)
       · have hr : r < 0 := by assumption
         have hU2 : U = (0, 0, 60) := by
          rw [<- HUE.out]
          rcases HH.out with ⟨_, ha⟩ | ⟨i, hri, _, _⟩
          · exact ha
          · exact absurd hr (by omega)
         subst hU2
         exact bodyPost_ret (v := .tuple #[.int .i64 0, .int .u32 0, .int .i64 60]) (by simp [results, Tryz.results127, go_sem]) rfl ⟨rfl, HB3.out⟩
       · have hr : 0 <= r := by assumption
         obtain ⟨i, hri, hil, ha⟩ := HH.out.resolve_left (fun h => by omega)
         obtain ⟨x, hgx⟩ : ∃ x, L.getD i 0 = x := ⟨_, rfl⟩
         rw [hgx] at ha
         have hU2 : U = (2, x, 0) := by rw [<- HUE.out]; exact ha
         subst hU2
         subst hri
         have hti : (i : Int) < (L.length : Int) := by omega
         obtain ⟨ad1, ea1, hx1⟩ := Kd.at_int HC3.out (i : Int) (by omega) hti
         subst ea1
         rw [Int.toNat_natCast] at hx1
         have hn1 : rd L (i : Int) = L.getD i 0 := rfl
         rw [hn1, hgx] at hx1
         clear hn1 ha HH HUE hgx
         go_wp2
         go_quiet (fail)
         go_wp2
         exact bodyPost_ret (v := .tuple #[.int .i64 2, .int .u32 x, .int .i64 0]) (by simp [results, Tryz.results127, go_sem]) rfl ⟨rfl, below_drewN' HB3.out nq⟩
     | false =>
       rw [show kindOf name = 3 by unfold kindOf; rw [if_neg (by rw [h1]; decide), if_neg (by rw [h2]; decide)]] at hUe
       rw [show prefS name ⟨#[76, 77, 79, 84, 83, 95]⟩ = false from h1] at PR1
       rw [show prefS name ⟨#[76, 77, 83, 95]⟩ = false from h2] at PR2
       have pr1 := Lib.hid PR1
       have pr2 := Lib.hid PR2
       have HUE := Zz.mk hUe
       have CC := fun Bk Bf W h1 h2 h3 h4 => collect_walk Bk Bf 3 4043309056 (by decide) (by decide) W h1 h2 h3 h4
       rw [show codesL 3 4043309056 = codesOf 3 from rfl] at CC
       have CI := fun A cp Bk Bn W h1 h2 h3 h4 => indexF_ans A cp Bk Bn 3 (by decide) name W h1 h2 h3 h4
       have hlen : (codesOf 3).length <= 89 := codesL_len _ _
       generalize codesOf 3 = L at *
       generalize ansS 3 name = an at *
       have cc := Lib.hid CC
       have ci := Lib.hid CI
       clear h1 h2 PR1 PR2 hUe CC CI
       go_enter Tryz.func127, Tryz.ntmps127
       go_wp2_with (first
        | (go_at_call 149; refine (c_XmssCodes _).mono ?_; rintro e v ⟨rfl, rfl⟩)
        | (go_at_call 150
           refine (cp.out _).mono ?_
           rintro e v1 ⟨rfl, hb⟩
           have q0 := World.alloc_heap_new w (.cells #[.string name] 9)
           have q1 := World.alloc_heap_new (w.alloc (.cells #[.string name] 9)) (.cells #[.int .i64 3] 3)
           have q2 := World.alloc_heap_new ((w.alloc (.cells #[.string name] 9)).alloc (.cells #[.int .i64 3] 3)) (.cells #[.int .u32 4043309056] 27)
           have q3 := World.alloc_heap_new (((w.alloc (.cells #[.string name] 9)).alloc (.cells #[.int .i64 3] 3)).alloc (.cells #[.int .u32 4043309056] 27)) (.cells #[.int .i64 3] 3)
           simp only [World.size_alloc] at q1 q2 q3
           have HN := Zz.mk (krow (knew (knew (knew q0))) hb)
           have HX1 := Zz.mk (krow (knew (knew q1)) hb)
           have HX2 := Zz.mk (krow (knew q2) hb)
           have HKB := Zz.mk (krow q3 hb)
           have hcn := blk_cell HN.out 0
           have hck := blk_cell HKB.out 0
           have hfk := blk_free HKB.out 0
           have hz : w.heap.size + 3 < v1.heap.size := by have := hb.size; simp at this; omega
           have HB1 : Zz (Below w.heap.size w v1) := ⟨(((((Below.refl _ w).alloc (Nat.le_refl _) (.cells #[.string name] 9)).alloc (by simp) (.cells #[.int .i64 3] 3)).alloc (by simp; omega) (.cells #[.int .u32 4043309056] 27)).alloc (by simp; omega) (.cells #[.int .i64 3] 3)).trans (hb.mono (by simp; omega))⟩
           clear q0 q1 q2 q3 hb)
        | (go_at_call 151
           first
           | (with_reducible refine (pr1.out _).mono ?_
              rintro e v ⟨rfl, hv⟩
              obtain rfl := hv.symm
              clear hv)
           | (with_reducible refine (pr2.out _).mono ?_
              rintro e v ⟨rfl, hv⟩
              obtain rfl := hv.symm
              clear hv))
        | (go_at_call 154
           refine (cc.out (w.heap.size + 1) (w.heap.size + 1 + 1) v1 (by omega) (by omega) (blk_cell HX1.out 0) (blk_cell HX2.out 0)).mono ?_
           rintro e v2 ⟨u2, rfl, hr, hb⟩
           obtain ⟨A2, c2, rfl, hl2, hC2⟩ := Kd.R_reads hr
           have HC2 := Zz.mk hC2
           have HL2 := Zz.mk hl2
           have HN2 := Zz.mk (krow HN.out hb)
           have HK2 := Zz.mk (krow HKB.out hb)
           have HB2 := Zz.mk (HB1.out.trans (hb.mono HB1.out.size))
           clear hr hC2 hl2 hb)
        | (go_at_call 155
           refine (ci.out A2 c2 (w.heap.size + 1 + 1 + 1) w.heap.size v2 HC2.out HL2.out (blk_cell HK2.out 0) (blk_cell HN2.out 0)).mono ?_
           rintro e v3 ⟨⟨r, rfl, h⟩, hb⟩
           have HC3 := Zz.mk (Kd.C_below HC2.out hb)
           have HB3 := Zz.mk (HB2.out.trans (hb.mono HB2.out.size))
           have hck3 : v3.cell? ⟨w.heap.size + 1 + 1 + 1, 0, none⟩ = some (.int .i64 3) := blk_cell (krow HK2.out hb) 0
           have HH := Zz.mk h
           clear h hb)
        | fail)
       · have hr : r < 0 := by assumption
         have hU2 : U = (0, 0, 60) := by
          rw [<- HUE.out]
          rcases HH.out with ⟨_, ha⟩ | ⟨i, hri, _, _⟩
          · exact ha
          · exact absurd hr (by omega)
         subst hU2
         exact bodyPost_ret (v := .tuple #[.int .i64 0, .int .u32 0, .int .i64 60]) (by simp [results, Tryz.results127, go_sem]) rfl ⟨rfl, HB3.out⟩
       · have hr : 0 <= r := by assumption
         obtain ⟨i, hri, hil, ha⟩ := HH.out.resolve_left (fun h => by omega)
         obtain ⟨x, hgx⟩ : ∃ x, L.getD i 0 = x := ⟨_, rfl⟩
         rw [hgx] at ha
         have hU2 : U = (3, x, 0) := by rw [<- HUE.out]; exact ha
         subst hU2
         subst hri
         have hti : (i : Int) < (L.length : Int) := by omega
         obtain ⟨ad1, ea1, hx1⟩ := Kd.at_int HC3.out (i : Int) (by omega) hti
         subst ea1
         rw [Int.toNat_natCast] at hx1
         have hn1 : rd L (i : Int) = L.getD i 0 := rfl
         rw [hn1, hgx] at hx1
         clear hn1 ha HH HUE hgx
         go_wp2
         go_quiet (fail)
         go_wp2
         exact bodyPost_ret (v := .tuple #[.int .i64 3, .int .u32 x, .int .i64 0]) (by simp [results, Tryz.results127, go_sem]) rfl ⟨rfl, below_drewN' HB3.out nq⟩
end Go.Proofs.YtpdinahdcedmkaaGreatDoor.ExtP
namespace Go.Proofs.YtpdinahdcedmkaaGreatDoor.Ext
open Go.Proofs.YtpdinahdcedmkaaGreatDoor.P
open Go.RowKit YtpdinahdcedmkaaGreatDoorW.PrintWords YtpdinahdcedmkaaGreatDoorW.PrintLast YtpdinahdcedmkaaGreatDoorW.PrintMore Go.Proofs.YtpdinahdcedmkaaGreatDoor.Spec
structure Held {α : Type} (κ : Kd α) (T : TypeId) (b0 : Nat) (W : World) (v : Value) (l : List α) : Prop where mk ::
 (out : ∃ A c, v = .slice A l.length c /\ l.length <= c /\ Kd.C κ W A l.length l /\ (0 < l.length -> ∃ a, A = some a /\ b0 <= a.block /\ ∃ cells fr, W.heap[a.block]? = some (.cells cells T fr)))
def Flat {α : Type} (κ : Kd α) : Prop := ∀ w w' p c, κ.K w p c -> κ.K w' p c
theorem addr_block (a : Addr) (n : Nat) : (a.add n).block = a.block := by unfold Addr.add; split <;> rfl
theorem C_step {α : Type} {κ : Kd α} (hf : Flat κ) {W W' : World} {a : Addr} {l : List α} (h : Kd.C κ W (some a) l.length l) (hc : ∀ i u, W.cell? (a.add i) = some u -> W'.cell? (a.add i) = some u) : Kd.C κ W' (some a) l.length l := by
 refine ⟨rfl, h.2.1, fun hn => ?_⟩
 obtain ⟨b, hb, hx⟩ := h.2.2 hn
 cases hb
 refine ⟨a, rfl, fun j p hj => ?_⟩
 obtain ⟨c, h1, h2, h3⟩ := hx j p hj
 exact ⟨c, h1, hf _ _ _ _ h2, fun i u hu => hc _ _ (h3 i u hu)⟩
theorem Held.step {α : Type} {κ : Kd α} {T : TypeId} {b0 : Nat} {W W' : World} {v : Value} {l : List α} (h : Held κ T b0 W v l) (hf : Flat κ) {row : Option Nat} (hg : W.grownBy W' row) (hrow : ∀ k, row = some k -> ∀ cells fr, W.heap[k]? ≠ some (.cells cells T fr)) : Held κ T b0 W' v l := by
 obtain ⟨A, c, h1, h2, h3, h4⟩ := h.out
 by_cases hl : 0 < l.length
 · obtain ⟨a, rfl, hb, cells, fr, hc⟩ := h4 hl
   have hne : some a.block ≠ row := fun e => hrow _ e.symm _ _ hc
   refine ⟨some a, c, h1, h2, C_step hf h3 (fun i u hu => hg.cell hu (by rw [addr_block]; exact hne)), fun _ => ⟨a, rfl, hb, cells, fr, ?_⟩⟩
   exact (hg.block _ (Array.getElem?_eq_some_iff.1 hc).1 hne).trans hc
 · have h0 : l = [] := List.length_eq_zero_iff.1 (by omega)
   subst h0
   exact ⟨A, c, h1, h2, ⟨rfl, h3.2.1, fun h => absurd h (by simp)⟩, fun h => absurd h hl⟩
theorem Held.below {α : Type} {κ : Kd α} {T : TypeId} {b0 : Nat} {W W' : World} {v : Value} {l : List α} (h : Held κ T b0 W v l) (hf : Flat κ) (hb : Below W.heap.size W W') : Held κ T b0 W' v l := h.step hf (grown_of_below hb none) (fun k hk => by cases hk)
theorem Held.lower {α : Type} {κ : Kd α} {T : TypeId} {b0 b1 : Nat} {W : World} {v : Value} {l : List α} (h : Held κ T b0 W v l) (hb : b1 <= b0) : Held κ T b1 W v l := by
 obtain ⟨A, c, h1, h2, h3, h4⟩ := h.out
 exact ⟨A, c, h1, h2, h3, fun hl => by obtain ⟨a, e, hb2, x⟩ := h4 hl; exact ⟨a, e, by omega, x⟩⟩
theorem Held.of {α : Type} {κ : Kd α} {T : TypeId} {b0 : Nat} {ok : Nat -> Prop} {W : World} {v : Value} {l : List α} (h : Kd.R κ T W b0 ok v l) : Held κ T b0 W v l := by
 obtain ⟨A, c, rfl, hle, hC⟩ := Kd.R_reads h
 refine ⟨A, c, rfl, hle, hC, fun hl => ?_⟩
 obtain ⟨a, rfl, _⟩ := hC.2.2 hl
 obtain ⟨inner, ho, _⟩ := h.2
 rcases ho.2 with ⟨e, _⟩ | ⟨g, cap, cur, hv, hg, hh, _⟩
 · cases e
 · cases hv
   exact ⟨_, rfl, hg, cur, _, hh⟩
theorem Held.nil {α : Type} (κ : Kd α) (T : TypeId) (b0 : Nat) (W : World) : Held κ T b0 W (.slice none 0 0) ([] : List α) := ⟨none, 0, rfl, Nat.le_refl _, Kd.C_nil _ _, fun h => absurd h (by simp)⟩
theorem flat_int (k : IntKind) : Flat (Kd.int k) := fun _ _ _ _ h => h
theorem flat_bool : Flat Kd.bool := fun _ _ _ _ h => h
def VPost (w : World) (g : Nat) (p0 p1 p2 p3 : Value) (l' : List ByteArray) (V : Value -> World -> Prop) (e : Ending) (w' : World) : Prop := ∃ v, e = .returned v /\ V v w' /\ ExtQ.Rdr w' g p0 p1 p2 p3 l' /\ w.grownBy w' (some g)
theorem value_k (w : World) (g : Nat) (p0 p1 p2 p3 : Value) (l : List ByteArray) (h : ExtQ.Rdr w g p0 p1 p2 p3 l) (hz : (l.headD ⟨#[]⟩).size <= 140737488351232) :
 Calls Tryz.prog 38 #[.pointer (some ⟨g, 0, none⟩), .int .i32 107] w (VPost w g p0 p1 p2 p3 l.tail fun v _ => v = .iface 27 (.int .u32 (min (ExtQ.numOf (l.headD ⟨#[]⟩)) 4294967295))) := by
 have cn := Lib.hid (ExtQ.number_any w g p0 p1 p2 p3 l h hz)
 have hb := numS_bd (l.headD ⟨#[]⟩)
 unfold ExtQ.numOf at *
 generalize (numS (l.headD ⟨#[]⟩)).1 = n at *
 generalize l.tail = t at *
 clear h hz
 go_enter Tryz.func38, Tryz.ntmps38
 go_wp2_with (first
  | (go_at_call 79
     refine cn.out.mono ?_
     rintro e v ⟨rfl, hr1, hg1⟩
     have HR1 := Zz.mk hr1
     have HG1 := Zz.mk hg1
     clear hr1 hg1)
  | fail)
 go_ret
 exact ⟨_, rfl, rfl, HR1.out, HG1.out⟩
theorem value_i (w : World) (g : Nat) (p0 p1 p2 p3 : Value) (l : List ByteArray) (h : ExtQ.Rdr w g p0 p1 p2 p3 l) (hz : (l.headD ⟨#[]⟩).size <= 140737488351232) :
 Calls Tryz.prog 38 #[.pointer (some ⟨g, 0, none⟩), .int .i32 105] w (VPost w g p0 p1 p2 p3 l.tail fun v _ => v = .iface 27 (.int .u32 (min (ExtQ.numOf (l.headD ⟨#[]⟩)) 4294967295))) := by
 have cn := Lib.hid (ExtQ.number_any w g p0 p1 p2 p3 l h hz)
 have hb := numS_bd (l.headD ⟨#[]⟩)
 unfold ExtQ.numOf at *
 generalize (numS (l.headD ⟨#[]⟩)).1 = n at *
 generalize l.tail = t at *
 clear h hz
 go_enter Tryz.func38, Tryz.ntmps38
 go_wp2_with (first
  | (go_at_call 79
     refine cn.out.mono ?_
     rintro e v ⟨rfl, hr1, hg1⟩
     have HR1 := Zz.mk hr1
     have HG1 := Zz.mk hg1
     clear hr1 hg1)
  | fail)
 go_ret
 exact ⟨_, rfl, rfl, HR1.out, HG1.out⟩
theorem value_b (w : World) (g : Nat) (p0 p1 p2 p3 : Value) (l : List ByteArray) (h : ExtQ.Rdr w g p0 p1 p2 p3 l) (hz : (l.headD ⟨#[]⟩).size <= 140737488351232) :
 Calls Tryz.prog 38 #[.pointer (some ⟨g, 0, none⟩), .int .i32 98] w (VPost w g p0 p1 p2 p3 l.tail fun v _ => v = .iface 3 (.int .i64 (min (ExtQ.numOf (l.headD ⟨#[]⟩)) 2147483648))) := by
 have cn := Lib.hid (ExtQ.number_any w g p0 p1 p2 p3 l h hz)
 have hb := numS_bd (l.headD ⟨#[]⟩)
 unfold ExtQ.numOf at *
 generalize (numS (l.headD ⟨#[]⟩)).1 = n at *
 generalize l.tail = t at *
 clear h hz
 go_enter Tryz.func38, Tryz.ntmps38
 go_wp2_with (first
  | (go_at_call 79
     refine cn.out.mono ?_
     rintro e v ⟨rfl, hr1, hg1⟩
     have HR1 := Zz.mk hr1
     have HG1 := Zz.mk hg1
     clear hr1 hg1)
  | fail)
 go_ret
 exact ⟨_, rfl, rfl, HR1.out, HG1.out⟩
theorem value_n (w : World) (g : Nat) (p0 p1 p2 p3 : Value) (l : List ByteArray) (h : ExtQ.Rdr w g p0 p1 p2 p3 l) (hz : (l.headD ⟨#[]⟩).size <= 140737488351232) :
 Calls Tryz.prog 38 #[.pointer (some ⟨g, 0, none⟩), .int .i32 110] w (VPost w g p0 p1 p2 p3 l.tail fun v _ => v = .iface 3 (.int .i64 (min (ExtQ.numOf (l.headD ⟨#[]⟩)) 2147483648))) := by
 have cn := Lib.hid (ExtQ.number_any w g p0 p1 p2 p3 l h hz)
 have hb := numS_bd (l.headD ⟨#[]⟩)
 unfold ExtQ.numOf at *
 generalize (numS (l.headD ⟨#[]⟩)).1 = n at *
 generalize l.tail = t at *
 clear h hz
 go_enter Tryz.func38, Tryz.ntmps38
 go_wp2_with (first
  | (go_at_call 79
     refine cn.out.mono ?_
     rintro e v ⟨rfl, hr1, hg1⟩
     have HR1 := Zz.mk hr1
     have HG1 := Zz.mk hg1
     clear hr1 hg1)
  | fail)
 go_ret
 exact ⟨_, rfl, rfl, HR1.out, HG1.out⟩
theorem value_d (w : World) (g : Nat) (p0 p1 p3 : Value) (A : Option Addr) (c : Nat) (nl : List ByteArray) (l : List ByteArray) (h : ExtQ.Rdr w g p0 p1 (.slice A nl.length c) p3 l) (hE : ∀ W, w.grownBy W (some g) -> Kd.C Kd.string W A nl.length nl /\ Zz (Lib.Utf8Tabs 1 2 W)) (hc : nl.length <= c) (hl : nl.length <= 1048576) (hz : ∀ i, (nl.getD i ByteArray.empty).size <= 17592186044416) :
 Calls Tryz.prog 38 #[.pointer (some ⟨g, 0, none⟩), .int .i32 100] w (VPost w g p0 p1 (.slice A nl.length c) p3 l.tail fun v _ => v = .iface 3 (.int .i64 (ExtQ.nameI nl (l.headD ⟨#[]⟩)))) := by
 have cn := Lib.hid (ExtQ.name_any w g p0 p1 p3 A c nl l h hE hc hl hz)
 generalize ExtQ.nameI nl (l.headD ⟨#[]⟩) = n at *
 generalize l.tail = t at *
 clear h hE hc hl hz
 go_enter Tryz.func38, Tryz.ntmps38
 go_wp2_with (first
  | (go_at_call 78
     refine cn.out.mono ?_
     rintro e v ⟨rfl, hr1, hg1⟩
     have HR1 := Zz.mk hr1
     have HG1 := Zz.mk hg1
     clear hr1 hg1)
  | fail)
 go_ret
 exact ⟨_, rfl, rfl, HR1.out, HG1.out⟩
theorem value_t (w : World) (g : Nat) (p0 p1 p3 : Value) (A : Option Addr) (c : Nat) (nl : List ByteArray) (l : List ByteArray) (h : ExtQ.Rdr w g p0 p1 (.slice A nl.length c) p3 l) (hE : ∀ W, w.grownBy W (some g) -> Kd.C Kd.string W A nl.length nl /\ Zz (Lib.Utf8Tabs 1 2 W)) (hc : nl.length <= c) (hl : nl.length <= 1048576) (hz : ∀ i, (nl.getD i ByteArray.empty).size <= 17592186044416) :
 Calls Tryz.prog 38 #[.pointer (some ⟨g, 0, none⟩), .int .i32 116] w (VPost w g p0 p1 (.slice A nl.length c) p3 l.tail fun v _ => v = .iface 3 (.int .i64 (ExtQ.nameI nl (l.headD ⟨#[]⟩)))) := by
 have cn := Lib.hid (ExtQ.name_any w g p0 p1 p3 A c nl l h hE hc hl hz)
 generalize ExtQ.nameI nl (l.headD ⟨#[]⟩) = n at *
 generalize l.tail = t at *
 clear h hE hc hl hz
 go_enter Tryz.func38, Tryz.ntmps38
 go_wp2_with (first
  | (go_at_call 78
     refine cn.out.mono ?_
     rintro e v ⟨rfl, hr1, hg1⟩
     have HR1 := Zz.mk hr1
     have HG1 := Zz.mk hg1
     clear hr1 hg1)
  | fail)
 go_ret
 exact ⟨_, rfl, rfl, HR1.out, HG1.out⟩
theorem value_w (w : World) (g : Nat) (p0 p1 p2 p3 : Value) (l : List ByteArray) (h : ExtQ.Rdr w g p0 p1 p2 p3 l) (hz : (l.headD ⟨#[]⟩).size <= 140737488351232) :
 Calls Tryz.prog 38 #[.pointer (some ⟨g, 0, none⟩), .int .i32 119] w (VPost w g p0 p1 p2 p3 l.tail fun v w' => ∃ u, v = .iface 31 u /\ Held (Kd.int .u8) 5 w.heap.size w' u (unhexS (l.headD ⟨#[]⟩)).1) := by
 have cn := Lib.hid (ExtQ.next_any w g p0 p1 p2 p3 l h)
 have cm := Lib.hid (fun W => unhex_walk (l.headD ⟨#[]⟩) W hz)
 generalize (unhexS (l.headD ⟨#[]⟩)) = U at *
 generalize l.headD ⟨#[]⟩ = s at *
 generalize l.tail = t at *
 clear h hz
 go_enter Tryz.func38, Tryz.ntmps38
 go_wp2_with (first
  | (go_at_call 81
     refine cn.out.mono ?_
     rintro e v ⟨rfl, hr1, hg1⟩
     have HR1 := Zz.mk hr1
     have HG1 := Zz.mk hg1
     clear hr1 hg1)
  | (go_at_call 80
     refine (cm.out _).mono ?_
     rintro e v2 ⟨u, rfl, hR, hb⟩
     have HH := Zz.mk ((Held.of hR).lower (show w.heap.size <= _ from HG1.out.size))
     have HR2 := Zz.mk (HR1.out.below hb)
     have HG2 := Zz.mk (HG1.out.trans (grown_of_below hb (some g)))
     clear hb hR)
  | fail)
 obtain ⟨Au, cu, rfl, -, -, -⟩ := HH.out.out
 go_ret
 exact ⟨_, rfl, ⟨_, rfl, HH.out⟩, HR2.out, HG2.out⟩
theorem value_x (w : World) (g : Nat) (p0 p1 p2 p3 : Value) (l : List ByteArray) (h : ExtQ.Rdr w g p0 p1 p2 p3 l) (hz : (l.headD ⟨#[]⟩).size <= 140737488351232) :
 Calls Tryz.prog 38 #[.pointer (some ⟨g, 0, none⟩), .int .i32 120] w (VPost w g p0 p1 p2 p3 l.tail fun v w' => ∃ u, v = .iface 31 u /\ Held (Kd.int .u8) 5 w.heap.size w' u (unhexS (l.headD ⟨#[]⟩)).1) := by
 have cn := Lib.hid (ExtQ.next_any w g p0 p1 p2 p3 l h)
 have cm := Lib.hid (fun W => unhex_walk (l.headD ⟨#[]⟩) W hz)
 generalize (unhexS (l.headD ⟨#[]⟩)) = U at *
 generalize l.headD ⟨#[]⟩ = s at *
 generalize l.tail = t at *
 clear h hz
 go_enter Tryz.func38, Tryz.ntmps38
 go_wp2_with (first
  | (go_at_call 81
     refine cn.out.mono ?_
     rintro e v ⟨rfl, hr1, hg1⟩
     have HR1 := Zz.mk hr1
     have HG1 := Zz.mk hg1
     clear hr1 hg1)
  | (go_at_call 80
     refine (cm.out _).mono ?_
     rintro e v2 ⟨u, rfl, hR, hb⟩
     have HH := Zz.mk ((Held.of hR).lower (show w.heap.size <= _ from HG1.out.size))
     have HR2 := Zz.mk (HR1.out.below hb)
     have HG2 := Zz.mk (HG1.out.trans (grown_of_below hb (some g)))
     clear hb hR)
  | fail)
 obtain ⟨Au, cu, rfl, -, -, -⟩ := HH.out.out
 go_ret
 exact ⟨_, rfl, ⟨_, rfl, HH.out⟩, HR2.out, HG2.out⟩
theorem below_bytes (W : World) (s : ByteArray) : Below W.heap.size W (Lib.bytesWorld W 5 s) := ⟨rfl, rfl, rfl, by rw [Lib.bytesWorld_size]; omega, fun j hj => Lib.bytesWorld_at_old W 5 s j hj⟩
theorem held_conv (W : World) (s : ByteArray) (hs : s.size <= 17592186044416) : Held (Kd.int .u8) 5 W.heap.size (Lib.bytesWorld W 5 s) (.slice (some ⟨W.heap.size, 0, none⟩) s.size (grownCap W s.size 0 5)) (bytesOf s) := by
 have hlen : (bytesOf s).length = s.size := by unfold bytesOf; rw [List.length_map, Array.length_toList]; rfl
 refine ⟨some ⟨W.heap.size, 0, none⟩, grownCap W s.size 0 5, by rw [hlen], ?_, ⟨rfl, by rw [hlen]; omega, fun _ => ⟨_, rfl, fun j p hj => ?_⟩⟩, fun _ => ⟨_, rfl, Nat.le_refl _, _, _, Lib.bytesWorld_at_new W 5 s⟩⟩
 · rw [hlen]; exact grownCap_ge _ _ _ _
 · have hjl : j < s.size := by
    have := (List.getElem?_eq_some_iff.1 hj).1
    omega
   refine ⟨[.int .u8 p], rfl, rfl, fun i u hu => ?_⟩
   match i, hu with
   | 0, hu =>
     simp at hu
     subst hu
     have e : (⟨W.heap.size, 0, none⟩ : Addr).add (j * 1 + 0) = ⟨W.heap.size, j, none⟩ := by unfold Addr.add; by_cases h : j = 0 <;> simp [h]
     show World.cell? _ (Addr.add _ (j * 1 + 0)) = _
     rw [e, Lib.bytesWorld_cell W 5 s j hjl]
     congr 2
     unfold bytesOf at hj
     rw [List.getElem?_map] at hj
     rw [List.getD_eq_getElem?_getD]
     cases hx : s.data.toList[j]? with
     | none => rw [hx] at hj; cases hj
     | some b => rw [hx] at hj; cases hj; rfl
   | i + 1, hu => simp at hu
theorem value_m (w : World) (g : Nat) (p0 p1 p2 p3 : Value) (l : List ByteArray) (h : ExtQ.Rdr w g p0 p1 p2 p3 l) (hz : (l.headD ⟨#[]⟩).size <= 17592186044416) (hq : (unqS (l.headD ⟨#[]⟩)).1.size <= 17592186044416) (hT : ∀ W, w.grownBy W (some g) -> Lib.Utf8Tabs 1 2 W) :
 Calls Tryz.prog 38 #[.pointer (some ⟨g, 0, none⟩), .int .i32 109] w (VPost w g p0 p1 p2 p3 l.tail fun v w' => ∃ u, v = .iface 31 u /\ Held (Kd.int .u8) 5 w.heap.size w' u (bytesOf (unqS (l.headD ⟨#[]⟩)).1)) := by
 have cn := Lib.hid (ExtQ.next_any w g p0 p1 p2 p3 l h)
 have cm := Lib.hid (fun W (hW : w.grownBy W (some g)) => unquote_walk (l.headD ⟨#[]⟩) W hz (hT W hW))
 have hcv := fun W => Lib.run_convert_string_bytes (P := Tryz.prog) W 9 31 5 (unqS (l.headD ⟨#[]⟩)).1 Tryz.underlying9 Tryz.underlying31 Tryz.underlying5
 have hh := Lib.hid (fun W => held_conv W (unqS (l.headD ⟨#[]⟩)).1 hq)
 generalize (unqS (l.headD ⟨#[]⟩)).1 = s1 at *
 generalize (unqS (l.headD ⟨#[]⟩)).2 = s2 at *
 generalize l.headD ⟨#[]⟩ = s at *
 generalize l.tail = t at *
 clear h hz hq hT
 go_enter Tryz.func38, Tryz.ntmps38
 go_wp2_with (first
  | (go_at_call 81
     refine cn.out.mono ?_
     rintro e v ⟨rfl, hr1, hg1⟩
     have HR1 := Zz.mk hr1
     have HG1 := Zz.mk hg1
     clear hr1 hg1)
  | (go_at_call 82
     refine (cm.out _ HG1.out).mono ?_
     rintro e v2 ⟨rfl, hb⟩
     have HR2 := Zz.mk (HR1.out.below hb)
     have HG2 := Zz.mk (HG1.out.trans (grown_of_below hb (some g)))
     clear hb)
  | fail)
 go_ret
 have hlen : (bytesOf s1).length = s1.size := by unfold bytesOf; rw [List.length_map, Array.length_toList]; rfl
 have hbw : Below v2.heap.size v2 (Lib.bytesWorld v2 5 s1) := below_bytes v2 s1
 exact ⟨_, rfl, ⟨_, rfl, (hh.out v2).lower HG2.out.size⟩, HR2.out.below hbw, HG2.out.trans (grown_of_below hbw _)⟩
theorem value_r (w : World) (g : Nat) (p0 p1 p2 p3 : Value) (l : List ByteArray) (h : ExtQ.Rdr w g p0 p1 p2 p3 l) (hz : (l.headD ⟨#[]⟩).size <= 140737488351232) (hz2 : (l.tail.headD ⟨#[]⟩).size <= 140737488351232) :
 Calls Tryz.prog 38 #[.pointer (some ⟨g, 0, none⟩), .int .i32 114] w (VPost w g p0 p1 p2 p3 l.tail.tail fun v _ => v = .iface 30 (.agg #[.int .u64 (ExtQ.numOf (l.headD ⟨#[]⟩)), .int .u64 (ExtQ.numOf (l.tail.headD ⟨#[]⟩))])) := by
 have cn := Lib.hid (ExtQ.number_any w g p0 p1 p2 p3 l h hz)
 have cm := Lib.hid (fun W (hW : ExtQ.Rdr W g p0 p1 p2 p3 l.tail) => ExtQ.number_any W g p0 p1 p2 p3 l.tail hW hz2)
 generalize ExtQ.numOf (l.headD ⟨#[]⟩) = n at *
 generalize ExtQ.numOf (l.tail.headD ⟨#[]⟩) = m at *
 generalize l.tail = t at *
 generalize t.tail = t2 at *
 clear h hz hz2
 go_enter Tryz.func38, Tryz.ntmps38
 go_wp2_with (first
  | (go_at_call 79
     first
     | (refine (cm.out _ HR1.out).mono ?_
        rintro e v2 ⟨rfl, hr2, hg2⟩
        have HR2 := Zz.mk hr2
        have HG2 := Zz.mk (HG1.out.trans hg2)
        clear hr2 hg2)
     | (refine cn.out.mono ?_
        rintro e v ⟨rfl, hr1, hg1⟩
        have HR1 := Zz.mk hr1
        have HG1 := Zz.mk hg1
        clear hr1 hg1))
  | fail)
 go_ret
 exact ⟨_, rfl, rfl, HR2.out, HG2.out⟩
end Go.Proofs.YtpdinahdcedmkaaGreatDoor.Ext
-- Written by this session's program xprint.py; not trusted: Lean checks it.
namespace Go.Proofs.YtpdinahdcedmkaaGreatDoor.Q
open Go.Proofs.YtpdinahdcedmkaaGreatDoor.Ext hiding blk_cell blk_set nums_append
open Go.Proofs.YtpdinahdcedmkaaGreatDoor.ExtQ
open Go.RowKit YtpdinahdcedmkaaGreatDoorW.PrintWords YtpdinahdcedmkaaGreatDoorW.PrintLast YtpdinahdcedmkaaGreatDoorW.PrintMore
attribute [local go_sem] max2_int min2_int max_two min_two max_three min_three max_four min_four   -- for this text's walks alone
end Go.Proofs.YtpdinahdcedmkaaGreatDoor.Q
/- script.Act of the chapter's example. -/
namespace Go.Proofs.YtpdinahdcedmkaaGreatDoor.ExtQ
open Go.Proofs.YtpdinahdcedmkaaGreatDoor.Ext
open Go.Proofs.YtpdinahdcedmkaaGreatDoor.Q
open Go.RowKit YtpdinahdcedmkaaGreatDoorW.PrintLast YtpdinahdcedmkaaGreatDoorW.PrintMore
open YtpdinahdcedmkaaGreatDoorW.PrintWords hiding blk_cell blk_set nums_append
theorem actC_info : (Tryz.prog.info? 34).map (·.size) = some 13 := by kernel_rfl
theorem act_store (w : World) (c d : Array Value) (hc : c.size = 13) (hd : d.size = 13) (ho : d.all (·.oneCell') = true) : (storeCells ⟨w.heap.size, 0, none⟩ d.toList).run Tryz.prog (w.alloc (.cells c 34)) = .ok () (w.alloc (.cells d 34)) :=
 run_storeCells_new (P := Tryz.prog) w 34 c d (by rw [hd]; exact actC_info) (by rw [hc, hd]) ho
theorem str_row {w : World} {base : Nat} {ok : Nat -> Prop} {v : Value} {l : List ByteArray} (h : Kd.R Kd.string 9 w base ok v l) (hl : 0 < l.length) : ∃ g c, v = .slice (some ⟨g, 0, none⟩) l.length c /\ l.length <= c /\ StrAt w (some ⟨g, 0, none⟩) l := by
 obtain ⟨inner, ho, hr⟩ := h.2
 obtain ⟨A, c, he, hle, hC⟩ := Kd.R_reads h
 rcases ho.2 with ⟨rfl, h0⟩ | ⟨g, cap, cur, hv, hg, hh, r⟩
 · exfalso
   injection he with _ h2 _
   omega
 · rw [hv] at he
   injection he with h1 _ h3
   subst h1
   subst h3
   refine ⟨g, _, hv, hle, ⟨fun _ => ⟨g, 0, cur, (0, 0), rfl, hh, fun j s hj => ?_⟩⟩⟩
   have hlt : j < l.length := by
    rcases Nat.lt_or_ge j l.length with h | h
    · exact h
    · rw [List.getElem?_eq_none h] at hj; cases hj
   obtain ⟨ad, e1, hx⟩ := Kd.at_string hC (j : Int) (by omega) (by omega)
   cases e1
   rw [Int.toNat_natCast] at hx
   have : rdOf ByteArray.empty l (j : Int) = s := by
    unfold rdOf
    rw [Int.toNat_natCast, List.getD_eq_getElem?_getD, hj]
    rfl
   rw [this] at hx
   have e : (⟨g, 0, none⟩ : Addr).add j = ⟨g, 0 + j, none⟩ := by unfold Addr.add; by_cases h : j = 0 <;> simp [h]
   rw [<- e]
   exact hx
theorem StrAt.head {w : World} {b i : Nat} {s : ByteArray} {t : List ByteArray} (h : StrAt w (some ⟨b, i, none⟩) (s :: t)) : w.cell? ⟨b, i, none⟩ = some (.string s) := by
 obtain ⟨b', i', cells, fr, h1, h2, h3⟩ := h.out (by simp)
 simp only [Option.some.injEq, Addr.mk.injEq, and_true] at h1
 obtain ⟨rfl, rfl⟩ := h1
 exact h3 0 s rfl
theorem results_cell2 {fn : Func} {a b : Tmp} {t : TypeId} (h : fn.results = #[.cell a t, .tmp b]) (tmps : Array Value) (P : Program) (w : World) (g : Nat) (hp : tmps.getD a undef = .pointer (some ⟨g, 0, none⟩)) (v u : Value) (hl : (loadVar t ⟨g, 0, none⟩).run P w = .ok v w) (hu : tmps.getD b undef = u) : (results fn tmps).run P w = .ok (.tuple #[v, u]) w := by
 rw [Array.getD_eq_getD_getElem?] at hp hu
 simp [results, h, hp, hl, hu, asAddr]
def w1 : ByteArray := ⟨#[99, 114, 97, 115, 104]⟩
def w2 : ByteArray := ⟨#[34, 98, 34]⟩
def w3 : ByteArray := ⟨#[43, 45, 43]⟩
structure AR (w W : World) (A B : Option Addr) (c bm bc : Nat) (wb g cw : Nat) : Prop where
 pl : W.heap[w.heap.size]? = some (.cells #[.int .i64 8, .int .i64 1, .slice A 2 c, .slice B bm bc] 25)
 rs : W.heap[w.heap.size + 1]? = some (.cells #[.int .i64 0, .int .i64 0, .int .i64 0, .int .i64 0, .slice none 0 0, .int .u32 0, .int .u32 0, .int .u32 0, .int .u64 0, .int .u64 0, .int .i64 0, .slice none 0 0, .slice none 0 0] 34)
 wx : W.heap[wb]? = some (.cells #[.slice (some ⟨g, 0, none⟩) 3 cw] 22)
 st : StrAt W (some ⟨g, 0, none⟩) [w1, w2, w3]
 hb : Below w.heap.size w W
theorem AR.below {w W W' : World} {A B : Option Addr} {c bm bc wb g cw : Nat} (h : AR w W A B c bm bc wb g cw) (hb : Below W.heap.size W W') : AR w W' A B c bm bc wb g cw :=
 ⟨krow h.pl hb, krow h.rs hb, krow h.wx hb, h.st.below hb, h.hb.trans (hb.mono h.hb.size)⟩
def actA (d : Int) (pv : Value) : Array Value := #[.int .i64 16, .int .i64 d, .int .i64 0, .int .i64 0, .slice none 0 0, .int .u32 0, .int .u32 0, .int .u32 0, .int .u64 0, .int .u64 0, .int .i64 0, .slice none 0 0, pv]
structure LS (w wr : World) (A B : Option Addr) (c bm bc ab rg k pos : Nat) (l : List ByteArray) (d : Int) (pv : Value) : Prop where
 it : wr.heap[k]? = some (.stringIter ⟨#[100, 112]⟩ pos)
 rd : Rdr wr rg (.int .i64 8) (.int .i64 1) (.slice A 2 c) (.slice B bm bc) l
 ac : wr.heap[ab]? = some (.cells #[.int .i64 16, .int .i64 d, .int .i64 0, .int .i64 0, .slice none 0 0, .int .u32 0, .int .u32 0, .int .u32 0, .int .u64 0, .int .u64 0, .int .i64 0, .slice none 0 0, pv] 34)
 pl : wr.heap[w.heap.size]? = some (.cells #[.int .i64 8, .int .i64 1, .slice A 2 c, .slice B bm bc] 25)
 rs : wr.heap[w.heap.size + 1]? = some (.cells #[.int .i64 0, .int .i64 0, .int .i64 0, .int .i64 0, .slice none 0 0, .int .u32 0, .int .u32 0, .int .u32 0, .int .u64 0, .int .u64 0, .int .i64 0, .slice none 0 0, .slice none 0 0] 34)
 hb : Below w.heap.size w wr
 g1 : w.heap.size + 1 < ab
 g2 : rg = ab + 1
 g3 : rg < k
theorem row_step {W W' : World} {b x : Nat} {o : Obj} (h : W.heap[b]? = some o) (hg : W.grownBy W' (some x)) (hne : b ≠ x) : W'.heap[b]? = some o :=
 (hg.block b (Array.getElem?_eq_some_iff.1 h).1 (by simpa using hne)).trans h
theorem LS.put {w wr : World} {A B : Option Addr} {c bm bc ab rg k pos : Nat} {l : List ByteArray} {d d' : Int} {pv pv' u : Value} (h : LS w wr A B c bm bc ab rg k pos l d pv) (i : Nat) (hac : (wr.setCell ⟨ab, i, none⟩ u).heap[ab]? = some (.cells (actA d' pv') 34)) : LS w (wr.setCell ⟨ab, i, none⟩ u) A B c bm bc ab rg k pos l d' pv' := by
 have g1 := h.g1; have g2 := h.g2; have g3 := h.g3
 have hg := setCell_grown wr ab i u
 exact ⟨row_step h.it hg (by omega), h.rd.step hg (fun x hx => by cases hx; exact ⟨by omega, fun cells fr he => by rw [h.ac] at he; cases he⟩), hac, row_step h.pl hg (by omega), row_step h.rs hg (by omega), h.hb.setCell (p := ⟨ab, i, none⟩) (by show _ <= ab; omega) _, g1, g2, g3⟩
theorem cellsBelow (W : World) (o : Obj) : Below W.heap.size W (W.alloc o) := (Below.refl _ _).alloc (Nat.le_refl _) _
end Go.Proofs.YtpdinahdcedmkaaGreatDoor.ExtQ
namespace Go.Proofs.YtpdinahdcedmkaaGreatDoor.Ext
open Go.Proofs.YtpdinahdcedmkaaGreatDoor.P
open Go.RowKit YtpdinahdcedmkaaGreatDoorW.PrintWords YtpdinahdcedmkaaGreatDoorW.PrintLast YtpdinahdcedmkaaGreatDoorW.PrintMore Go.Proofs.YtpdinahdcedmkaaGreatDoor.Spec
theorem slash_lt (s : ByteArray) : slashI s < (s.size : Int) := by
 by_cases h : 0 <= slashI s
 · obtain ⟨i, hi⟩ := Int.eq_ofNat_of_zero_le h
   have h1 := (Lib.indexByte_some (o := i) (show Lib.indexByte s.data.toList 47 = (i : Int) from hi)).1
   have h2 := (List.getElem?_eq_some_iff.1 h1).1
   have h3 : s.data.toList.length = s.size := by rw [Array.length_toList]; rfl
   omega
 · omega
theorem slash_size (s : ByteArray) : (slashS s).1.size <= s.size /\ (slashS s).2.size <= s.size := by
 unfold slashS
 split
 · simp only [ByteArray.size_extract]
   omega
 · exact ⟨Nat.le_refl _, Nat.zero_le _⟩
def lvOf (w : ByteArray) : Lv := ⟨(ExtP.codeS (slashS w).1).2.1, (ExtP.codeS (slashS w).2).2.1⟩
def xmssB : ByteArray := ⟨#[120, 109, 115, 115]⟩
def setsR (l : List ByteArray) : Int × List Lv × Int := if l.headD ⟨#[]⟩ = xmssB then (2, [], (ExtP.codeS (l.tail.headD ⟨#[]⟩)).2.1) else (1, l.tail.map lvOf, 0)
def setsL (l : List ByteArray) : List ByteArray := if l.headD ⟨#[]⟩ = xmssB then l.tail.tail else []
theorem flat_lv : Flat k74 := fun w w' p c h => by rw [k74_open h]; exact k74_mk w' p
theorem info_lv : (Tryz.prog.info? 74).map (fun i => (i.zero, i.size, i.bytes)) = some (some (.agg #[.int .u32 0, .int .u32 0]), 2, 8) := by kernel_rfl
structure SB (w W : World) (g : Nat) (p0 p1 p2 p3 : Value) (rest : List ByteArray) (kd xm : Int) (u : Value) : Prop where
 rd : ExtQ.Rdr W g p0 p1 p2 p3 rest
 rs : W.heap[w.heap.size]? = some (.cells #[.int .i64 0, .int .i64 0, .int .i64 0, .int .i64 0, .slice none 0 0, .int .u32 0, .int .u32 0, .int .u32 0, .int .u64 0, .int .u64 0, .int .i64 0, .slice none 0 0, .slice none 0 0] 34)
 ac : W.heap[w.heap.size + 1]? = some (.cells #[.int .i64 0, .int .i64 0, .int .i64 0, .int .i64 kd, u, .int .u32 xm, .int .u32 0, .int .u32 0, .int .u64 0, .int .u64 0, .int .i64 0, .slice none 0 0, .slice none 0 0] 34)
 gr : w.grownBy W (some g)
 lt : g < w.heap.size
section
variable {w W W' : World} {g : Nat} {p0 p1 p2 p3 : Value} {rest rest' : List ByteArray} {kd xm : Int} {u : Value}
theorem SB.below (h : SB w W g p0 p1 p2 p3 rest kd xm u) (hb : Below W.heap.size W W') : SB w W' g p0 p1 p2 p3 rest kd xm u :=
 ⟨h.rd.below hb, krow h.rs hb, krow h.ac hb, h.gr.trans (grown_of_below hb _), h.lt⟩
theorem SB.read (h : SB w W g p0 p1 p2 p3 rest kd xm u) (hr : ExtQ.Rdr W' g p0 p1 p2 p3 rest') (hg : W.grownBy W' (some g)) : SB w W' g p0 p1 p2 p3 rest' kd xm u := by
 have := h.lt
 exact ⟨hr, ExtQ.row_step h.rs hg (by omega), ExtQ.row_step h.ac hg (by omega), h.gr.trans hg, h.lt⟩
theorem SB.other (h : SB w W g p0 p1 p2 p3 rest kd xm u) {row : Option Nat} (hg : W.grownBy W' row) (hrow : ∀ k, row = some k -> w.heap.size + 1 < k /\ ∀ cells fr, W.heap[k]? ≠ some (.cells cells 9 fr)) : SB w W' g p0 p1 p2 p3 rest kd xm u := by
 have := h.lt
 refine ⟨h.rd.step hg (fun k hk => ⟨by have := (hrow k hk).1; omega, (hrow k hk).2⟩), ?_, ?_, ExtQ.grown_more h.gr hg (fun k hk => by have := (hrow k hk).1; omega), h.lt⟩
 · exact (hg.block _ (Array.getElem?_eq_some_iff.1 h.rs).1 (fun e => by have := (hrow _ e.symm).1; omega)).trans h.rs
 · exact (hg.block _ (Array.getElem?_eq_some_iff.1 h.ac).1 (fun e => by have := (hrow _ e.symm).1; omega)).trans h.ac
theorem SB.own (h : SB w W g p0 p1 p2 p3 rest kd xm u) (i : Nat) (v : Value) {kd' xm' : Int} {u' : Value} (hac : (W.setCell ⟨w.heap.size + 1, i, none⟩ v).heap[w.heap.size + 1]? = some (.cells #[.int .i64 0, .int .i64 0, .int .i64 0, .int .i64 kd', u', .int .u32 xm', .int .u32 0, .int .u32 0, .int .u64 0, .int .u64 0, .int .i64 0, .slice none 0 0, .slice none 0 0] 34)) : SB w (W.setCell ⟨w.heap.size + 1, i, none⟩ v) g p0 p1 p2 p3 rest kd' xm' u' := by
 have hg := ExtQ.setCell_grown W (w.heap.size + 1) i v
 have := h.lt
 refine ⟨h.rd.step hg (fun k hk => by cases hk; exact ⟨by omega, fun cells fr he => by rw [h.ac] at he; cases he⟩), ?_, hac, ExtQ.grown_more h.gr hg (fun k hk => by cases hk; omega), h.lt⟩
 exact (hg.block _ (Array.getElem?_eq_some_iff.1 h.rs).1 (by simp)).trans h.rs
theorem setRow_grown (W : World) (k : Nat) (cs : Array Value) : W.grownBy (W.setRow k cs) (some k) := ⟨rfl, rfl, rfl, by simp [World.setRow], fun i _ hne => setRow_other W k i cs (fun e => hne (by rw [e]))⟩
theorem SB.fin (h : SB w W g p0 p1 p2 p3 rest kd xm u) (cs : Array Value) : ExtQ.Rdr (W.setRow w.heap.size cs) g p0 p1 p2 p3 rest /\ w.grownBy (W.setRow w.heap.size cs) (some g) := by
 have hg := setRow_grown W w.heap.size cs
 have := h.lt
 exact ⟨h.rd.step hg (fun k hk => by cases hk; exact ⟨by omega, fun cells fr he => by rw [h.rs] at he; cases he⟩), ExtQ.grown_more h.gr hg (fun k hk => by cases hk; omega)⟩
end
def rdLen (W : World) (g : Nat) : Nat := match W.cell? ⟨g, 4, none⟩ with
 | some (.slice _ n _) => n
 | _ => 0
theorem rdLen_of {W : World} {g : Nat} {p0 p1 p2 p3 : Value} {l : List ByteArray} (h : ExtQ.Rdr W g p0 p1 p2 p3 l) : rdLen W g = l.length := by
 obtain ⟨A, c, h1, _⟩ := h.out
 unfold rdLen
 rw [blk_cell h1 4]
 rfl
def SetsPost (w : World) (g : Nat) (p0 p1 p2 p3 : Value) (l' : List ByteArray) (kd : Int) (ls : List Lv) (xm : Int) (e : Ending) (w' : World) : Prop := ∃ u, e = .returned (.agg #[.int .i64 0, .int .i64 0, .int .i64 0, .int .i64 kd, u, .int .u32 xm, .int .u32 0, .int .u32 0, .int .u64 0, .int .u64 0, .int .i64 0, .slice none 0 0, .slice none 0 0]) /\ Held k74 74 w.heap.size w' u ls /\ ExtQ.Rdr w' g p0 p1 p2 p3 l' /\ w.grownBy w' (some g)
theorem results_cell1 {fn : Func} {a : Tmp} {t : TypeId} (h : fn.results = #[.cell a t]) (tmps : Array Value) (P : Program) (w : World) (g : Nat) (hp : tmps.getD a undef = .pointer (some ⟨g, 0, none⟩)) (v : Value) (hl : (loadVar t ⟨g, 0, none⟩).run P w = .ok v w) : (results fn tmps).run P w = .ok v w := by
 rw [Array.getD_eq_getD_getElem?] at hp
 simp [results, h, hp, hl, asAddr]
theorem actC_info2 : (Tryz.prog.info? 34).map (·.size) = some 13 := by kernel_rfl
theorem sets_x (w : World) (g : Nat) (p0 p1 p2 p3 : Value) (l : List ByteArray) (h : ExtQ.Rdr w g p0 p1 p2 p3 l) (hz : ∀ i, (l.getD i ⟨#[]⟩).size <= 1099511627776) (hx : l.headD ⟨#[]⟩ = xmssB) :
 Calls Tryz.prog 84 #[.pointer (some ⟨g, 0, none⟩)] w (SetsPost w g p0 p1 p2 p3 l.tail.tail 2 [] (ExtP.codeS (l.tail.headD ⟨#[]⟩)).2.1) := by
 have hlt : g < w.heap.size := by obtain ⟨_, _, h1, _⟩ := h.out; exact (Array.getElem?_eq_some_iff.1 h1).1
 have cn := Lib.hid (fun W (hW : ExtQ.Rdr W g p0 p1 p2 p3 l) => ExtQ.next_any W g p0 p1 p2 p3 l hW)
 have cm := Lib.hid (fun W (hW : ExtQ.Rdr W g p0 p1 p2 p3 l.tail) => ExtQ.next_any W g p0 p1 p2 p3 l.tail hW)
 have cc := Lib.hid (fun W => ExtP.c_Code (l.tail.headD ⟨#[]⟩) W (by have := hz 1; rcases l with _ | ⟨a, _ | ⟨b, t⟩⟩ <;> simp at this ⊢ <;> omega))
 have hst := act_store0 (.int .i64 0) (.int .i64 0) (.int .i64 0) (.int .i64 1) (.slice none 0 0) (.int .u32 0) (.int .u32 0) (.int .u32 0) (.int .u64 0) (.int .u64 0) (.int .i64 0) (.slice none 0 0) (.slice none 0 0) (by simp [Value.oneCell'])
 have HB0 : Zz (SB w ((w.alloc (.cells #[.int .i64 0, .int .i64 0, .int .i64 0, .int .i64 0, .slice none 0 0, .int .u32 0, .int .u32 0, .int .u32 0, .int .u64 0, .int .u64 0, .int .i64 0, .slice none 0 0, .slice none 0 0] 34)).alloc (.cells #[.int .i64 0, .int .i64 0, .int .i64 0, .int .i64 1, .slice none 0 0, .int .u32 0, .int .u32 0, .int .u32 0, .int .u64 0, .int .u64 0, .int .i64 0, .slice none 0 0, .slice none 0 0] 34)) g p0 p1 p2 p3 l 1 0 (.slice none 0 0)) := ⟨⟨(h.below (ExtQ.cellsBelow _ _)).below (ExtQ.cellsBelow _ _), knew (heap_alloc_new w _), by have := heap_alloc_new (w.alloc (.cells #[.int .i64 0, .int .i64 0, .int .i64 0, .int .i64 0, .slice none 0 0, .int .u32 0, .int .u32 0, .int .u32 0, .int .u64 0, .int .u64 0, .int .i64 0, .slice none 0 0, .slice none 0 0] 34)) (.cells #[.int .i64 0, .int .i64 0, .int .i64 0, .int .i64 1, .slice none 0 0, .int .u32 0, .int .u32 0, .int .u32 0, .int .u64 0, .int .u64 0, .int .i64 0, .slice none 0 0, .slice none 0 0] 34); simpa using this, (World.grownBy_alloc w _ _).trans (World.grownBy_alloc _ _ _), hlt⟩⟩
 have tx : (l.headD ⟨#[]⟩).toList = [120, 109, 115, 115] := by rw [hx]; decide +kernel
 generalize (ExtP.codeS (l.tail.headD ⟨#[]⟩)) = C at *
 clear h hz hx
 generalize l.headD ⟨#[]⟩ = s at *
 generalize l.tail = t at *
 generalize t.headD ⟨#[]⟩ = s2 at *
 generalize t.tail = t2 at *
 go_enter Tryz.func84, Tryz.ntmps84
 go_wp2_with (first
  | (go_at_call 81
     first
     | (with_reducible refine (cm.out _ HB1.out.rd).mono ?_
        rintro e v2 ⟨rfl, hr, hg⟩
        have HB2 := Zz.mk (HB1.out.read hr hg)
        clear hr hg)
     | (with_reducible refine (cn.out _ HB0.out.rd).mono ?_
        rintro e v1 ⟨rfl, hr, hg⟩
        have HBa := Zz.mk (HB0.out.read hr hg)
        have q3 := blk_cell HBa.out.ac 3
        have f3 := blk_free HBa.out.ac 3
        have HB1 := Zz.mk (HBa.out.own (kd' := 2) (xm' := 0) (u' := .slice none 0 0) 3 (.int .i64 2) (blk_set HBa.out.ac 3 _))
        clear hr hg HBa))
  | (go_at_call 127
     with_reducible refine (cc.out _).mono ?_
     rintro e v3 ⟨rfl, hb⟩
     have HB3 := Zz.mk (HB2.out.below hb)
     have q5 := blk_cell HB3.out.ac 5
     have f5 := blk_free HB3.out.ac 5
     have HB4 := Zz.mk (HB3.out.own (kd' := 2) (xm' := C.2.1) (u' := .slice none 0 0) 5 (.int .u32 C.2.1) (blk_set HB3.out.ac 5 _))
     obtain ⟨k0, k1, k2, k3, k4, k5, k6, k7, k8, k9, k10, k11, k12⟩ := cls13 HB4.out.ac
     clear hb)
  | (refine wpList_store_row rfl 34 (.tmp 2) (.tmp 21) rfl w.heap.size #[.int .i64 0, .int .i64 0, .int .i64 0, .int .i64 2, .slice none 0 0, .int .u32 C.2.1, .int .u32 0, .int .u32 0, .int .u64 0, .int .u64 0, .int .i64 0, .slice none 0 0, .slice none 0 0] rfl rfl 34 _ HB4.out.rs actC_info2 rfl (by simp [Value.oneCell']) ?_)
  | fail)
 refine bodyPost_ret (v := .agg #[.int .i64 0, .int .i64 0, .int .i64 0, .int .i64 2, .slice none 0 0, .int .u32 C.2.1, .int .u32 0, .int .u32 0, .int .u64 0, .int .u64 0, .int .i64 0, .slice none 0 0, .slice none 0 0]) (results_cell1 Tryz.results84 _ _ _ w.heap.size rfl _ (run_loadVar_row _ w.heap.size 34 34 _ (0, 0) _ (setRow_heap _ _ _ _ _ _ HB4.out.rs) Tryz.underlying34 rfl actC_info2)) rfl ?_
 exact ⟨_, rfl, Held.nil _ _ _ _, (HB4.out.fin _).1, (HB4.out.fin _).2⟩
theorem sets_h (w : World) (g : Nat) (p0 p1 p2 p3 : Value) (l : List ByteArray) (h : ExtQ.Rdr w g p0 p1 p2 p3 l) (hz : ∀ s ∈ l, s.size <= 1099511627776) (hx : l.headD ⟨#[]⟩ ≠ xmssB) :
 Calls Tryz.prog 84 #[.pointer (some ⟨g, 0, none⟩)] w (SetsPost w g p0 p1 p2 p3 [] 1 (l.tail.map lvOf) 0) := by
 have hlt : g < w.heap.size := by obtain ⟨_, _, h1, _⟩ := h.out; exact (Array.getElem?_eq_some_iff.1 h1).1
 have hll : l.tail.length <= 1073741824 := by
  obtain ⟨_, _, _, _, h3, _⟩ := h.out
  rw [List.length_tail]
  omega
 have hzt : ∀ s ∈ l.tail, s.size <= 1099511627776 := fun s hs => hz s (List.mem_of_mem_tail hs)
 have cn := Lib.hid (fun W (hW : ExtQ.Rdr W g p0 p1 p2 p3 l) => ExtQ.next_any W g p0 p1 p2 p3 l hW)
 have cm := Lib.hid (fun W s t (hW : ExtQ.Rdr W g p0 p1 p2 p3 (s :: t)) => (show Calls Tryz.prog 81 #[.pointer (some ⟨g, 0, none⟩)] W fun e w' => e = .returned (.string s) /\ (ExtQ.Rdr w' g p0 p1 p2 p3 t /\ W.grownBy w' (some g)) from ExtQ.next_any W g p0 p1 p2 p3 (s :: t) hW))
 have hst := act_store0 (.int .i64 0) (.int .i64 0) (.int .i64 0) (.int .i64 1) (.slice none 0 0) (.int .u32 0) (.int .u32 0) (.int .u32 0) (.int .u64 0) (.int .u64 0) (.int .i64 0) (.slice none 0 0) (.slice none 0 0) (by simp [Value.oneCell'])
 have HB0 : Zz (SB w ((w.alloc (.cells #[.int .i64 0, .int .i64 0, .int .i64 0, .int .i64 0, .slice none 0 0, .int .u32 0, .int .u32 0, .int .u32 0, .int .u64 0, .int .u64 0, .int .i64 0, .slice none 0 0, .slice none 0 0] 34)).alloc (.cells #[.int .i64 0, .int .i64 0, .int .i64 0, .int .i64 1, .slice none 0 0, .int .u32 0, .int .u32 0, .int .u32 0, .int .u64 0, .int .u64 0, .int .i64 0, .slice none 0 0, .slice none 0 0] 34)) g p0 p1 p2 p3 l 1 0 (.slice none 0 0)) := ⟨⟨(h.below (ExtQ.cellsBelow _ _)).below (ExtQ.cellsBelow _ _), knew (heap_alloc_new w _), by have := heap_alloc_new (w.alloc (.cells #[.int .i64 0, .int .i64 0, .int .i64 0, .int .i64 0, .slice none 0 0, .int .u32 0, .int .u32 0, .int .u32 0, .int .u64 0, .int .u64 0, .int .i64 0, .slice none 0 0, .slice none 0 0] 34)) (.cells #[.int .i64 0, .int .i64 0, .int .i64 0, .int .i64 1, .slice none 0 0, .int .u32 0, .int .u32 0, .int .u32 0, .int .u64 0, .int .u64 0, .int .i64 0, .slice none 0 0, .slice none 0 0] 34); simpa using this, (World.grownBy_alloc w _ _).trans (World.grownBy_alloc _ _ _), hlt⟩⟩
 have tx : ¬ (l.headD ⟨#[]⟩).toList = [120, 109, 115, 115] := fun e => hx (Go.WideShapes.bytes_inj (by rw [ByteArray.toList_eq] at e; exact e))
 clear h hz hx
 generalize l.headD ⟨#[]⟩ = s0 at *
 have tb : (s0.toList == [120, 109, 115, 115]) = false := beq_eq_false_iff_ne.2 tx
 clear tx
 generalize l.tail = t0 at *
 go_enter Tryz.func84, Tryz.ntmps84
 go_wp2_with ((first
  | (go_at_call 81
     with_reducible refine (cn.out _ HB0.out.rd).mono ?_
     rintro e v1 ⟨rfl, hr, hg⟩
     have HBa := Zz.mk (HB0.out.read hr hg)
     clear hr hg)
  | fail))
 go_loopw [27] (fun _ wr => ∃ (rest : List ByteArray) (L : List Lv) (u : Value), L.length + rest.length <= 1073741824 /\ Zz (∀ s ∈ rest, s.size <= 1099511627776) /\ Zz (L ++ rest.map lvOf = t0.map lvOf) /\ Zz (SB w wr g p0 p1 p2 p3 rest 1 0 u) /\ Zz (Kd.R k74 74 wr w.heap.size (fun k => w.heap.size + 1 < k) u L)) (fun _ wr => rdLen wr g)
 case atStart => exact ⟨t0, [], _, by simpa using hll, ⟨hzt⟩, ⟨rfl⟩, HBa, ⟨Kd.R_nil _ _ _ _ _⟩⟩
 case round =>
  clear HBa HB0 hst tb
  obtain ⟨rest, L, u, hlen, HZ, HL, HB, HR⟩ := hrel
  obtain ⟨Ar, cr, hrow, hcr, _, _⟩ := HB.out.rd.out
  have q4 : wr.cell? ⟨g, 4, none⟩ = some (.slice Ar rest.length cr) := blk_cell hrow 4
  have HML := Zz.mk (rdLen_of HB.out.rd)
  have hsz : w.heap.size <= wr.heap.size := HB.out.gr.size
  clear hrow hcr
  cases rest with
  | nil =>
    have HE : Zz (L = t0.map lvOf) := ⟨by have := HL.out; simpa using this⟩
    obtain ⟨Au, cu, rfl, -, -⟩ := Kd.R_reads HR.out
    have HH := Zz.mk (Held.of HR.out)
    have HRR := Zz.mk (Kd.R_mono (Kd.R_types HR.out HB.out.rs (by decide)) (fun k hk => hk.2))
    obtain ⟨k0, k1, k2, k3, k4, k5, k6, k7, k8, k9, k10, k11, k12⟩ := cls13 HB.out.ac
    simp only [List.length_nil] at q4
    go_wp2_with (first
     | (refine wpList_store_row rfl 34 (.tmp 2) (.tmp 55) rfl w.heap.size #[.int .i64 0, .int .i64 0, .int .i64 0, .int .i64 1, .slice Au L.length cu, .int .u32 0, .int .u32 0, .int .u32 0, .int .u64 0, .int .u64 0, .int .i64 0, .slice none 0 0, .slice none 0 0] rfl rfl 34 _ HB.out.rs actC_info2 rfl (by simp [Value.oneCell']) ?_)
     | fail)
    refine bodyPost_ret (v := .agg #[.int .i64 0, .int .i64 0, .int .i64 0, .int .i64 1, .slice Au L.length cu, .int .u32 0, .int .u32 0, .int .u32 0, .int .u64 0, .int .u64 0, .int .i64 0, .slice none 0 0, .slice none 0 0]) (results_cell1 Tryz.results84 _ _ _ w.heap.size rfl _ (run_loadVar_row _ w.heap.size 34 34 _ (0, 0) _ (setRow_heap _ _ _ _ _ _ HB.out.rs) Tryz.underlying34 rfl actC_info2)) rfl ?_
    refine ⟨_, rfl, ?_, (HB.out.fin _).1, (HB.out.fin _).2⟩
    rw [<- HE.out]
    exact HH.out.step flat_lv (setRow_grown _ _ _) (fun k hk cells fr he => by cases hk; rw [HB.out.rs] at he; cases he)
  | cons s t =>
    have hsl := HZ.out s (by simp)
    have c1 := Lib.hid (fun W => c_Cut s W (by omega) (slash_lt s))
    have hs2 := slash_size s
    have d1 := Lib.hid (fun W => ExtP.c_Code (slashS s).1 W (by omega))
    have d2 := Lib.hid (fun W => ExtP.c_Code (slashS s).2 W (by omega))
    have HLV : Zz (lvOf s = ⟨(ExtP.codeS (slashS s).1).2.1, (ExtP.codeS (slashS s).2).2.1⟩) := ⟨rfl⟩
    generalize ExtP.codeS (slashS s).1 = C1 at *
    generalize ExtP.codeS (slashS s).2 = C2 at *
    generalize slashS s = sl at *
    have hn0 : (0 : Int) < ((t.length : Int) + 1) := by omega
    have hLl : L.length + (t.length + 1) <= 1073741824 := by simpa using hlen
    simp only [List.length_cons] at q4
    clear hs2
    go_upto_region 11 with (first
     | (go_at_call 81
        with_reducible refine (cm.out _ _ _ HB.out.rd).mono ?_
        rintro e v1 ⟨rfl, hr, hg⟩
        have HB1 := Zz.mk (HB.out.read hr hg)
        have HR1 := Zz.mk (Kd.R_grown HR.out hg (fun k hk e => by cases e; omega))
        clear hr hg)
     | (go_at_call 54
        with_reducible refine (c1.out _).mono ?_
        rintro e v2 ⟨rfl, hb⟩
        have HB2 := Zz.mk (HB1.out.below hb)
        have HR2 := Zz.mk (Kd.R_mono (Kd.R_bound (Kd.R_below HR1.out hb)) (ok' := fun k => w.heap.size + 1 < k /\ k < v2.heap.size) (fun k hk => ⟨hk.1, hk.2.2.1⟩))
        have hv2 : w.heap.size + 1 < v2.heap.size := (Array.getElem?_eq_some_iff.1 HB2.out.ac).1
        have HB2a := Zz.mk (HB2.out.below (ExtQ.cellsBelow v2 (.cells #[.int .u32 0, .int .u32 0] 74)))
        have HR2a := Zz.mk (Kd.R_below HR2.out (ExtQ.cellsBelow v2 (.cells #[.int .u32 0, .int .u32 0] 74)))
        have HV := Zz.mk (heap_alloc_new v2 (.cells #[.int .u32 0, .int .u32 0] 74))
        clear hb)
     | (go_at_call 127
        first
        | (with_reducible refine (d1.out _).mono ?_
           rintro e v3 ⟨rfl, hb⟩
           have HB3 := Zz.mk (HB2a.out.below hb)
           have HR3 := Zz.mk (Kd.R_below HR2a.out hb)
           have HV3 := Zz.mk (krow HV.out hb)
           have y0 := blk_cell HV3.out 0
           have z0 := blk_free HV3.out 0
           have HB4 := Zz.mk (HB3.out.other (ExtQ.setCell_grown v3 v2.heap.size 0 (.int .u32 C1.2.1)) (fun k hk => by cases hk; exact ⟨hv2, fun cells fr he => by rw [HV3.out] at he; cases he⟩))
           have HR4 := Zz.mk (Kd.R_far (p := ⟨v2.heap.size, 0, none⟩) HR3.out (fun k hk => Nat.ne_of_lt hk.2) (.int .u32 C1.2.1))
           have HV4 := Zz.mk (blk_set HV3.out 0 (.int .u32 C1.2.1))
           clear hb)
        | (with_reducible refine (d2.out _).mono ?_
           rintro e v4 ⟨rfl, hb⟩
           have HB5 := Zz.mk (HB4.out.below hb)
           have HR5 := Zz.mk (Kd.R_below HR4.out hb)
           have HV5 := Zz.mk (krow HV4.out hb)
           have y1 := blk_cell HV5.out 1
           have z1 := blk_free HV5.out 1
           have HB6 := Zz.mk (HB5.out.other (ExtQ.setCell_grown v4 v2.heap.size 1 (.int .u32 C2.2.1)) (fun k hk => by cases hk; exact ⟨hv2, fun cells fr he => by rw [HV5.out] at he; cases he⟩))
           have HR6 := Zz.mk (Kd.R_mono (Kd.R_far (p := ⟨v2.heap.size, 1, none⟩) HR5.out (fun k hk => Nat.ne_of_lt hk.2) (.int .u32 C2.2.1)) (ok' := fun k => w.heap.size + 1 < k) (fun k hk => hk.1))
           have HV6 := Zz.mk (blk_set HV5.out 1 (.int .u32 C2.2.1))
           have x4 := blk_cell HB6.out.ac 4
           have m0 := blk_cell HV6.out 0
           have m1 := blk_cell HV6.out 1
           have hv6 : w.heap.size + 1 < (v4.setCell ⟨v2.heap.size, 1, none⟩ (.int .u32 C2.2.1)).heap.size := (Array.getElem?_eq_some_iff.1 HB6.out.ac).1
           clear hb))
     | fail)
    generalize v4.setCell ⟨v2.heap.size, 1, none⟩ (.int .u32 C2.2.1) = W6 at *
    clear q4 y0 z0 y1 z1 HV HB1 HR1 HB2 HR2 HB2a HR2a HB3 HR3 HV3 HB4 HR4 HV4 HB5 HR5 HV5
    go_wp2_with (first
     | ((with_reducible refine gate_builtin (b := .append) (xs := #[.tmp 50, .tmp 52]) rfl ?_)
        at_builtin
        refine Kd.R_append k74 (w0 := W6) w.heap.size rfl (.tmp 50) (.tmp 52) 26 74 (.agg #[.int .u32 0, .int .u32 0]) 8 rfl Tryz.underlying26 info_lv rfl (by decide) (by omega) u L ⟨C1.2.1, C2.2.1⟩ [.int .u32 C1.2.1, .int .u32 C2.2.1] (fun k => w.heap.size + 1 < k) (fun _ => False) rfl rfl (k74_mkM _ _ _ ⟨C1.2.1, C2.2.1⟩) (fun _ hk => hk.elim) (fun k hk => Nat.lt_of_lt_of_le hv6 hk) HR6.out (Below.refl _ _) (by omega) (by omega) ?_
        intro u7 w7 ho hb hg hat
        obtain ⟨A7, c7, rfl, -, -⟩ := Kd.R_reads ho
        rw [show (L ++ [(⟨C1.2.1, C2.2.1⟩ : Lv)]).length = L.length + 1 by simp] at ho
        have HR7 := Zz.mk ho
        have HB7 := Zz.mk (HB6.out.other hg (fun k hk => ⟨HR6.out.1 k hk, fun cells fr he => by obtain ⟨_, inner, hown, _⟩ := HR6.out; obtain ⟨c9, h9⟩ := own_typed hown k hk; rw [h9] at he; cases he⟩))
        have w4 := blk_cell HB7.out.ac 4
        have g4 := blk_free HB7.out.ac 4
        have HB8 := Zz.mk (HB7.out.own (kd' := 1) (xm' := 0) (u' := .slice A7 (L.length + 1) c7) 4 (.slice A7 (L.length + 1) c7) (blk_set HB7.out.ac 4 _))
        have HR8 := Zz.mk (Kd.R_far (p := ⟨w.heap.size + 1, 4, none⟩) HR7.out (fun k hk => Nat.ne_of_gt hk) (.slice A7 (L.length + 1) c7))
        clear ho hb hg hat)
     | fail)
    go_roundw
    case rel => exact ⟨t, L ++ [⟨C1.2.1, C2.2.1⟩], _, by simp; omega, ⟨fun s hs => HZ.out s (by simp [hs])⟩, ⟨by rw [<- HL.out, List.map_cons, HLV.out]; simp⟩, HB8, HR8⟩
    case measure => rw [rdLen_of HB8.out.rd, HML.out]; simp
end Go.Proofs.YtpdinahdcedmkaaGreatDoor.Ext
