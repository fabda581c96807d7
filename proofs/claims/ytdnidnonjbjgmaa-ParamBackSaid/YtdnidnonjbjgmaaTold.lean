/- liverylaw06.told, codes: the codes of a kind as the program tells them, at most so many; slices.Equal, Contains, IsSorted. -/
import Derived.Test.YtdnidnonjbjgmaaIter
import Derived.Maps.AppendAt
import Derived.Test.YtdnidnonjbjgmaaOts
namespace Go.Proofs.Ytdnidnonjbjgmaa.Ext
set_option linter.unusedVariables false
open Go.RowKit Go.Shelf Go.Proofs.YtdnidnonjbjgmaaW.PrintWords Go.Proofs.YtdnidnonjbjgmaaW.PrintLast Go.Proofs.YtdnidnonjbjgmaaW.PrintMore Go.Proofs.Ytdnidnonjbjgmaa.Spec
attribute [local go_sem] Oper.semAt_some

theorem info_u32 : (Try.prog.info? 22).map (fun i => (i.zero, i.size, i.bytes)) = some (some (.int .u32 0), 1, 4) := by kernel_rfl
theorem codesL_len (kind first : Int) : (codesL kind first).length ≤ 89 := by
  unfold codesL
  have := lowL_len kind 25
  have := highL_len kind first 64
  rw [List.length_append]
  omega
theorem pre_take {pre xs : List Int} (h : pre <+: xs) : pre = xs.take pre.length := by
  obtain ⟨t, rfl⟩ := h
  simp
theorem row_u32 {W : World} {base : Nat} {v : Value} {pre : List Int} (h : W.ownsRow base 22 1 v pre.length (pre.map (Value.int .u32))) : Kd.R (Kd.int .u32) 22 W base (fun _ => True) v pre := Kd.R_of_own (h1 := fun _ => rfl) h (fun _ _ => trivial)
set_option maxRecDepth 100000 in
set_option maxHeartbeats 4000000 in
theorem told_walk (most : Nat) (hm : most ≤ 1048576) (Bk Bf : Nat) (kind first : Int) (h0 : 0 ≤ first) (h1 : first + 64 < 4294967296) (w : World) (hBk : Bk < w.heap.size) (hBf : Bf < w.heap.size)
    (hck : w.cell? ⟨Bk, 0, none⟩ = some (.int .i64 kind)) (hcf : w.cell? ⟨Bf, 0, none⟩ = some (.int .u32 first)) :
    Calls Try.prog 45 #[.func (.func 73) #[] #[.pointer (some ⟨Bk, 0, none⟩), .pointer (some ⟨Bf, 0, none⟩)], .int .i64 most] w fun e w' => ∃ v, e = .returned v ∧ Kd.R (Kd.int .u32) 22 w' w.heap.size (fun _ => True) v ((codesL kind first).take most) ∧ Below w.heap.size w w' := by
  obtain ⟨i0, hi, hz0, hz1, hz2⟩ := info_parts info_u32
  refine (callsIn_wide (n := 5)).1 ?_
  refine callsIn_of_wp_marks Try.func45 rfl trivial ?_ rfl
  simp only [Try.ntmps45, List.size_toArray, List.length_cons, List.length_nil, Nat.reduceAdd, Nat.reduceSub, Array.replicate_succ, Array.replicate_zero, List.push_toArray, List.append_toArray, List.nil_append, List.cons_append]
  have hnf : ∀ W, (binOp .eql 65 (.func (.func 73) #[] #[.pointer (some ⟨Bk, 0, none⟩), .pointer (some ⟨Bf, 0, none⟩)]) .nilFunc).run Try.prog W = .ok (.bool false) W := by
    intro W
    rfl
  gi_wp2
  have bM := Boxed.new w 3 (.int .i64 most)
  have bL := Boxed.new (w.alloc (.cells #[.int .i64 most] 3)) 38 (.slice none 0 0)
  have hB0 : Below w.heap.size w ((w.alloc (.cells #[.int .i64 most] 3)).alloc (.cells #[.slice none 0 0] 38)) := ((Below.refl _ w).alloc (Nat.le_refl _) _).alloc (by simp) _
  have hsz0 : ((w.alloc (.cells #[.int .i64 most] 3)).alloc (.cells #[.slice none 0 0] 38)).heap.size = w.heap.size + 2 := by simp
  rw [World.size_alloc] at bL
  have bM2 := bM.alloc (.cells #[.slice none 0 0] 38)
  generalize ((w.alloc (.cells #[.int .i64 most] 3)).alloc (.cells #[.slice none 0 0] 38)) = W0 at *
  have hRow : OwnFrom W0.heap.size (fun (pre : List Int) W => ∃ v, Boxed W (w.heap.size + 1) 38 v ∧ W.ownsRow w.heap.size 22 1 v pre.length (pre.map (Value.int .u32)) ∧ True) := Own.from (holdsRow_own w.heap.size (w.heap.size + 1) 38 22 1 (fun pre : List Int => pre.length) (fun pre => pre.map (Value.int .u32)) (fun _ _ => True)) _
  have hBel : OwnFrom (β := List Int) W0.heap.size (fun _ W => Below w.heap.size w W) := ownFrom_below (Nat.le_refl _) (by rw [hsz0]; omega)
  have hMost : OwnFrom (β := List Int) W0.heap.size (fun _ W => Boxed W w.heap.size 3 (.int .i64 most)) := Own.from (boxed_own w.heap.size 3 (fun _ => .int .i64 most)) _
  refine wpIn_rangeFunc_ownG rfl (by omega) (gf := 73) (lb := #[.pointer (some ⟨Bk, 0, none⟩), .pointer (some ⟨Bf, 0, none⟩)]) rfl trivial (enters_of Try.func73 (by kernel_rfl) rfl)
    (codes_stops 4 (by omega) Bk Bf w.heap.size kind first h0 h1 W0 hBk hBf (by rw [hsz0]; omega) ((hB0.cell (p := ⟨Bk, 0, none⟩) hBk).trans hck) ((hB0.cell (p := ⟨Bf, 0, none⟩) hBf).trans hcf)) belowK_t (belowK_b (by rw [hsz0]; omega)) (Below.refl _ _) (fun _ => rfl)
    (fun pre W => (∃ v, Boxed W (w.heap.size + 1) 38 v ∧ W.ownsRow w.heap.size 22 1 v pre.length (pre.map (Value.int .u32)) ∧ True) ∧ Boxed W w.heap.size 3 (.int .i64 most) ∧ pre.length ≤ most ∧ Below w.heap.size w W)
    (fun c pre W => c = .exit 0 ∧ ∃ pre' x, pre = pre' ++ [x] ∧ pre'.length = most ∧ (∃ v, Boxed W (w.heap.size + 1) 38 v ∧ W.ownsRow w.heap.size 22 1 v pre'.length (pre'.map (Value.int .u32)) ∧ True) ∧ Below w.heap.size w W)
    (fun s A B row hs hg hr => ⟨hRow s A B row hs.1 hg hr, hMost s A B row hs.2.1 hg hr, hs.2.2.1, hBel s A B row hs.2.2.2 hg hr⟩)
    (fun c s A B row hs hg hr => by
      obtain ⟨rfl, pre', x, rfl, hl, hrow, hb⟩ := hs
      exact ⟨rfl, pre', x, rfl, hl, hRow pre' A B row hrow hg hr, hBel pre' A B row hb hg hr⟩)
    ⟨⟨_, bL, World.ownsRow_nil _ _ _ _, trivial⟩, bM2, by simp, hB0⟩
    (fun x => { tmps := #[.func (.func 73) #[] #[.pointer (some ⟨Bk, 0, none⟩), .pointer (some ⟨Bf, 0, none⟩)], .int .i64 most, undef, .pointer (some ⟨w.heap.size, 0, none⟩), .slice none 0 0, .pointer (some ⟨w.heap.size + 1, 0, none⟩), .int .u32 x, .func (.func 73) #[] #[.pointer (some ⟨Bk, 0, none⟩), .pointer (some ⟨Bf, 0, none⟩)], .bool false, .func (.func 73) #[] #[.pointer (some ⟨Bk, 0, none⟩), .pointer (some ⟨Bf, 0, none⟩)], .int .u32 x, undef, undef, undef, undef, undef, undef, undef, undef, undef], defers := [] }) ?assign ?body ?done ?stop
  case assign =>
    intro l x W K hK
    gi_wp2
    exact hK
  case body =>
    rintro l pre x W ⟨⟨v, hv, hrow, _⟩, hmo, hle, hB⟩ hlt
    obtain ⟨A, c, rfl⟩ := Kd.R_slice (row_u32 hrow)
    have hc := hv.cell
    have hcm := hmo.cell
    by_cases hfull : pre.length < most
    · have t1 : ¬ (most : Int) ≤ (pre.length : Int) := by omega
      clear hfull
      gi_wp2_with (gi_at_builtin; refine wpListIn_append_own _ rfl _ _ 38 rfl w.heap.size 22 i0 (.int .u32 0) 1 4 Try.underlying38 hi hz0 hz1 hz2 rfl (by decide) _ _ _ rfl (hrow.alloc _) ⟨W.heap.size, 0, none⟩ 1 1 [.int .u32 x] rfl rfl (cell_one_new _ _ _) (by simp [Value.oneCell']) (by simp only [maxLen]; omega) (by omega) (by have := hB.size; simp; omega) ?_; intro v' w1 hown' hgrow _; obtain ⟨g', cap', rfl⟩ := ownsRow_succ hown'; obtain ⟨hv1, hv2, hr2, hk2, hb2⟩ := hv.appended (by decide) hrow hB.size (by omega) hown' hgrow; have hc1 := hv1.cell; have hf1 := hv1.frozen; have hmo1 := ((hmo.alloc _).kept hgrow (hmo.not_row (by decide) hrow)).other (B' := w.heap.size + 1) (by omega) (.slice (some ⟨g', 0, none⟩) (pre.length + 1) cap'))
      exact ⟨hk2.from _, hb2, ⟨_, hv2, by simpa using hr2⟩, hmo1, by simp; omega, hB.trans hb2⟩
    · have t1 : (most : Int) ≤ (pre.length : Int) := by omega
      gi_wp2
      exact ⟨KeepsFrom.refl _ _, rfl, pre, x, rfl, by omega, ⟨_, hv, hrow, trivial⟩, hB⟩
  case done =>
    rintro D ys W hD rfl ⟨⟨v, hv, hrow, _⟩, hmo, hle, hB⟩ hK
    have hc := hv.cell
    gi_wp2
    refine ⟨by simp, .inl ⟨_, _, rfl, run_takeDeferred hK, ?_⟩⟩
    refine ⟨_, results_tmp rfl _ _ _, v, rfl, ?_, hB.trans (belowK_b (w := w) (Nat.le_refl _) W D _ _ (by omega) hK rfl rfl)⟩
    rw [List.take_of_length_le hle]
    exact row_u32 (ownsRow_putObj hrow _ hK rfl)
  case stop =>
    rintro D c pre W hD hSp ⟨rfl, pre', x, rfl, hl, ⟨v, hv, hrow, _⟩, hB⟩ hK
    have hc := hv.cell
    gi_wp2
    refine ⟨by simp, .inl ⟨_, _, rfl, run_takeDeferred hK, ?_⟩⟩
    refine ⟨_, results_tmp rfl _ _ _, v, rfl, ?_, hB.trans (belowK_b (w := w) (Nat.le_refl _) W D _ _ (by omega) hK rfl rfl)⟩
    have hp : pre' <+: codesL kind first := List.IsPrefix.trans ⟨[x], rfl⟩ hSp
    rw [← hl, ← pre_take hp]
    exact row_u32 (ownsRow_putObj hrow _ hK rfl)
end Go.Proofs.Ytdnidnonjbjgmaa.Ext
