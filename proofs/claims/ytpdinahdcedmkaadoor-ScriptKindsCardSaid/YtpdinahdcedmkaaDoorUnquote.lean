/- octet.taken, octet.Unquote: the text of one in quotes. -/
import Derived.Test.YtpdinahdcedmkaaDoorBacks
namespace Go.Proofs.YtpdinahdcedmkaaDoor.Ext
set_option linter.unusedVariables false
open Go.RowKit Go.Proofs.YtpdinahdcedmkaaDoorW.PrintWords Go.Proofs.YtpdinahdcedmkaaDoorW.PrintLast Go.Proofs.YtpdinahdcedmkaaDoorW.PrintMore

/-- a piece of what stands between quotes: its bytes, its length, whether it is one -/
def takenS (q : ByteArray) : List Int × Nat × Bool :=
  if bt q 0 ≠ 92 then ([bt q 0], 1, true)
  else if q.size < 2 then ([], 0, false)
  else if bt q 1 ≠ 120 then ([bt q 1], 2, true)
  else if q.size < 4 then ([], 0, false)
  else ((unhexS (q.extract 2 4)).1, 4, (unhexS (q.extract 2 4)).2.2 == 0)
theorem sl_from (s : ByteArray) (i : Int) (h0 : 0 ≤ i) (h1 : i ≤ s.size) : ∀ W, (Instr.slice 9 (.string s) (some (.int .i64 i)) none none).run Tryd.prog W = .ok (.string (s.extract i.toNat s.size)) W := by
  intro W
  simp [go_sem, Tryd.underlying9, h0, h1]
theorem sl_both (s : ByteArray) (i j : Int) (h0 : 0 ≤ i) (h1 : i ≤ j) (h2 : j ≤ s.size) : ∀ W, (Instr.slice 9 (.string s) (some (.int .i64 i)) (some (.int .i64 j)) none).run Tryd.prog W = .ok (.string (s.extract i.toNat j.toNat)) W := by
  intro W
  simp [go_sem, Tryd.underlying9, h0, h1, h2]
theorem R_lit1 (W w : World) (b : Int) (hw : w.heap.size ≤ W.heap.size) : Kd.R (Kd.int .u8) 5 (W.alloc (.cells #[.int .u8 b] 5)) w.heap.size (fun _ => True) (.slice (some ⟨W.heap.size, 0, none⟩) 1 1) [b] :=
  Kd.R_of_own (World.ownsRow_lit (base := w.heap.size) (e := 5) (size := 1) W #[.int .u8 b] 1 hw (by simp [maxLen]) (by simp)) (fun _ _ => trivial)
set_option maxHeartbeats 2000000 in
set_option maxRecDepth 100000 in
theorem taken_walk (q : ByteArray) (w : World) (h0 : 0 < q.size) (hs : q.size ≤ 140737488351232) :
    Calls Tryd.prog 61 #[.string q] w fun e w' => ∃ v : Value, e = .returned (.tuple #[v, .int .i64 ((takenS q).2.1 : Int), .bool (takenS q).2.2]) ∧ Kd.R (Kd.int .u8) 5 w' w.heap.size (fun _ => True) v (takenS q).1 ∧ Below w.heap.size w w' := by
  obtain ⟨U, hU⟩ : ∃ U, takenS q = U := ⟨_, rfl⟩
  have HU := Lib.hid hU
  rw [hU]
  clear hU
  have hx0 : ∀ W, (Instr.index 9 (.string q) (.int .i64 0)).run Tryd.prog W = .ok (.int .u8 (bt q 0)) W := idx_str q 0 h0
  have hb0 := bt_range q 0
  by_cases c0 : bt q 0 = 92
  · rw [c0] at hx0
    by_cases c1 : q.size < 2
    · obtain rfl : U = ([], 0, false) := by rw [← HU.out]; unfold takenS; rw [if_neg (not_not_intro c0), if_pos c1]
      have t1 : (q.size : Int) < 2 := by omega
      clear c0 c1
      go_enter Tryd.func61, Tryd.ntmps61
      go_wp2
      exact bodyPost_ret (v := .tuple #[.slice none 0 0, .int .i64 0, .bool false]) (by simp [results, Tryd.results61, go_sem]) rfl ⟨_, rfl, Kd.R_nil _ _ _ _ _, Below.refl _ _⟩
    · have hx1 : ∀ W, (Instr.index 9 (.string q) (.int .i64 1)).run Tryd.prog W = .ok (.int .u8 (bt q 1)) W := idx_str q 1 (by omega)
      have hb1 := bt_range q 1
      have t1 : ¬ (q.size : Int) < 2 := by omega
      by_cases c2 : bt q 1 = 120
      · rw [c2] at hx1
        by_cases c3 : q.size < 4
        · obtain rfl : U = ([], 0, false) := by rw [← HU.out]; unfold takenS; rw [if_neg (not_not_intro c0), if_neg c1, if_neg (not_not_intro c2), if_pos c3]
          have t2 : (q.size : Int) < 4 := by omega
          clear c0 c1 c2 c3
          go_enter Tryd.func61, Tryd.ntmps61
          go_wp2
          exact bodyPost_ret (v := .tuple #[.slice none 0 0, .int .i64 0, .bool false]) (by simp [results, Tryd.results61, go_sem]) rfl ⟨_, rfl, Kd.R_nil _ _ _ _ _, Below.refl _ _⟩
        · have t2 : ¬ (q.size : Int) < 4 := by omega
          have hsl := sl_both q 2 4 (by decide) (by decide) (by omega)
          have Cu := fun W => unhex_walk (q.extract 2 4) W (by rw [ByteArray.size_extract]; omega)
          have hU := HU.out
          unfold takenS at hU
          rw [if_neg (not_not_intro c0), if_neg c1, if_neg (not_not_intro c2), if_neg c3] at hU
          have e24 : q.extract (2 : Int).toNat (4 : Int).toNat = q.extract 2 4 := rfl
          rw [e24] at hsl
          generalize q.extract 2 4 = p at *
          generalize unhexS p = V at *
          obtain ⟨l, n, e⟩ := V
          simp only at hU Cu
          subst hU
          have cu := Lib.hid Cu
          clear Cu c0 c1 c2 c3
          go_enter Tryd.func61, Tryd.ntmps61
          go_wp2_with (first
            | (go_at_call 40
               refine (cu.out _).mono ?_
               rintro e1 v1 ⟨x1, rfl, hr1, hb1⟩)
            | fail)
          exact bodyPost_ret (v := .tuple #[x1, .int .i64 4, .bool (e == 0)]) (by simp [results, Tryd.results61, go_sem]) rfl ⟨_, rfl, hr1, hb1⟩
      · obtain rfl : U = ([bt q 1], 2, true) := by rw [← HU.out]; unfold takenS; rw [if_neg (not_not_intro c0), if_neg c1, if_pos c2]
        have t2 : ((bt q 1) == 120) = false := beq_eq_false_iff_ne.2 c2
        clear c0 c1
        go_enter Tryd.func61, Tryd.ntmps61
        go_wp2
        exact bodyPost_ret (v := .tuple #[.slice (some ⟨w.heap.size, 0, none⟩) 1 1, .int .i64 2, .bool true]) (by simp [results, Tryd.results61, go_sem]) rfl ⟨_, rfl, R_lit1 w w _ (Nat.le_refl _), below_new _ _⟩
  · obtain rfl : U = ([bt q 0], 1, true) := by rw [← HU.out]; unfold takenS; rw [if_pos c0]
    have t0 : ((bt q 0) == 92) = false := beq_eq_false_iff_ne.2 c0
    go_enter Tryd.func61, Tryd.ntmps61
    go_wp2
    exact bodyPost_ret (v := .tuple #[.slice (some ⟨w.heap.size, 0, none⟩) 1 1, .int .i64 1, .bool true]) (by simp [results, Tryd.results61, go_sem]) rfl ⟨_, rfl, R_lit1 w w _ (Nat.le_refl _), below_new _ _⟩

/-- all pieces of what stands between quotes -/
def unqL : Nat → ByteArray → List Int → Option (List Int)
  | 0, _, out => some out
  | f + 1, q, out => if q.size = 0 then some out else if (takenS q).2.2 = true then unqL f (q.extract (takenS q).2.1 q.size) (out ++ (takenS q).1) else none
def unqS (q : ByteArray) : ByteArray × Int :=
  if q.size < 2 then (ByteArray.empty, 11) else match unqL q.size (q.extract 1 (q.size - 1)) [] with
    | none => (ByteArray.empty, 11)
    | some l => if quoteS (strOfNums l) = q then (strOfNums l, 0) else (ByteArray.empty, 11)
theorem taken_bd (q : ByteArray) (h0 : 0 < q.size) (h : (takenS q).2.2 = true) : 1 ≤ (takenS q).2.1 ∧ (takenS q).2.1 ≤ q.size ∧ (takenS q).1.length ≤ (takenS q).2.1 := by
  revert h
  unfold takenS
  by_cases c0 : bt q 0 ≠ 92
  · rw [if_pos c0]; intro _; simp; omega
  · rw [if_neg c0]
    by_cases c1 : q.size < 2
    · rw [if_pos c1]; intro h; cases h
    · rw [if_neg c1]
      by_cases c2 : bt q 1 ≠ 120
      · rw [if_pos c2]; intro _; simp; omega
      · rw [if_neg c2]
        by_cases c3 : q.size < 4
        · rw [if_pos c3]; intro h; cases h
        · rw [if_neg c3]
          intro _
          have := (unhexS_bytes (q.extract 2 4)).2
          rw [ByteArray.size_extract] at this
          simp only
          omega
def strLen : Value → Nat
  | .string s => s.size
  | _ => 0
theorem unqL_end (f : Nat) (q : ByteArray) (out : List Int) (h : q.size = 0) : unqL f q out = some out := by
  cases f with
  | zero => rfl
  | succ f => rw [unqL, if_pos h]
set_option maxHeartbeats 4000000 in
set_option maxRecDepth 100000 in
theorem unquote_walk (q : ByteArray) (w : World) (hs : q.size ≤ 17592186044416) (hT : Lib.Utf8Tabs 0 1 w) :
    Calls Tryd.prog 42 #[.string q] w fun e w' => e = .returned (.tuple #[.string (unqS q).1, .int .i64 (unqS q).2]) ∧ Below w.heap.size w w' := by
  obtain ⟨U, hU⟩ : ∃ U, unqS q = U := ⟨_, rfl⟩
  have HU := Lib.hid hU
  rw [hU]
  clear hU
  have HT := Lib.hid hT
  clear hT
  by_cases h2 : q.size < 2
  · obtain rfl : U = (ByteArray.empty, 11) := by rw [← HU.out]; unfold unqS; rw [if_pos h2]
    have t1 : (q.size : Int) < 2 := by omega
    clear h2
    go_enter Tryd.func42, Tryd.ntmps42
    go_wp2
    exact bodyPost_ret (v := .tuple #[.string ByteArray.empty, .int .i64 11]) (by simp [results, Tryd.results42, go_sem]; rfl) rfl ⟨rfl, Below.refl _ _⟩
  · have t1 : ¬ (q.size : Int) < 2 := by omega
    have hsl := sl_both q 1 ((q.size : Int) - 1) (by decide) (by omega) (by omega)
    have hin : q.extract (1 : Int).toNat ((q.size : Int) - 1).toNat = q.extract 1 (q.size - 1) := by congr 1; omega
    have hsz : (q.extract 1 (q.size - 1)).size + 2 = q.size := by rw [ByteArray.size_extract]; omega
    rw [hin] at hsl
    have hU := HU.out
    unfold unqS at hU
    rw [if_neg h2] at hU
    generalize q.extract 1 (q.size - 1) = q0 at *
    have HU2 := Lib.hid hU
    clear hU hin h2
    go_enter Tryd.func42, Tryd.ntmps42
    go_wp2
    go_loopw [4, 5] (fun v4 v5 wr => ∃ (p : ByteArray) (out : List Int) (fuel : Nat), v5 = .string p ∧ Aside0 (Kd.R (Kd.int .u8) 5 wr w.heap.size (fun _ => True) v4 out) ∧ Aside0 (unqL fuel p out = unqL q.size q0 [] ∧ p.size ≤ fuel) ∧ out.length + p.size ≤ q.size ∧ Aside0 (Below w.heap.size w wr)) (fun _ v5 _ => strLen v5)
    case atStart => exact ⟨q0, [], q.size, rfl, ⟨Kd.R_of_own (World.ownsRow_lit (base := w.heap.size) (e := 5) (size := 1) w #[] 0 (Nat.le_refl _) (by simp [maxLen]) (by simp)) (fun _ _ => trivial)⟩, ⟨rfl, by omega⟩, by simp; omega, ⟨(Below.refl _ _).alloc (Nat.le_refl _) _⟩⟩
    case round =>
      obtain ⟨p, out, fuel, rfl, hO, hR, hL, hB⟩ := hrel
      by_cases hp : p.size = 0
      · have t2 : ¬ (0 : Int) < (p.size : Int) := by omega
        have hu := hR.out.1
        rw [unqL_end _ _ _ hp] at hu
        have hU := HU2.out
        rw [← hu] at hU
        simp only at hU
        have hcv := own_string (P := Tryd.prog) (src := 39) (dst := 9) Tryd.underlying39 Tryd.underlying5 Tryd.underlying9 (Kd.own_of_R hO.out)
        have cq := Lib.hid (fun W hT => quote_walk (strOfNums out) W (by rw [strOfNums_size]; omega) hT)
        by_cases he : quoteS (strOfNums out) = q
        · rw [if_pos he] at hU
          have CQ := cq.out
          rw [he] at CQ
          have cq := Lib.hid CQ
          subst hU
          clear hu hR CQ he HU2
          go_wp2_with (first
            | (go_at_call 51
               refine (cq.out _ (Utf8Tabs_below HT.out hB.out)).mono ?_
               rintro e1 v1 ⟨rfl, hb1⟩)
            | fail)
          exact bodyPost_ret (v := .tuple #[.string (strOfNums out), .int .i64 0]) (by simp [results, Tryd.results42, go_sem]) rfl ⟨rfl, hB.out.trans (hb1.mono hB.out.size)⟩
        · rw [if_neg he] at hU
          have te := str_ne he
          subst hU
          generalize quoteS (strOfNums out) = S at *
          clear hu hR he HU2
          go_wp2_with (first
            | (go_at_call 51
               refine (cq.out _ (Utf8Tabs_below HT.out hB.out)).mono ?_
               rintro e1 v1 ⟨rfl, hb1⟩)
            | fail)
          exact bodyPost_ret (v := .tuple #[.string ByteArray.empty, .int .i64 11]) (by simp [results, Tryd.results42, go_sem]; rfl) rfl ⟨rfl, hB.out.trans (hb1.mono hB.out.size)⟩
      · have t2 : (0 : Int) < (p.size : Int) := by omega
        have h0 : 0 < p.size := by omega
        obtain ⟨fuel, rfl⟩ : ∃ k, fuel = k + 1 := ⟨fuel - 1, by have := hR.out.2; omega⟩
        have hu := hR.out.1
        rw [unqL, if_neg hp] at hu
        have Ct := fun W => taken_walk p W h0 (by omega)
        have hbd := taken_bd p h0
        have hf := hR.out.2
        by_cases hok : (takenS p).2.2 = true
        · rw [if_pos hok] at hu
          obtain ⟨b1, b2, b3⟩ := hbd hok
          rw [hok] at Ct
          have hsl2 := sl_from p ((takenS p).2.1 : Int) (by omega) (by omega)
          rw [Int.toNat_natCast] at hsl2
          have hsz2 : (p.extract (takenS p).2.1 p.size).size = p.size - (takenS p).2.1 := by rw [ByteArray.size_extract]; omega
          generalize p.extract (takenS p).2.1 p.size = p2 at *
          generalize (takenS p).2.1 = n at *
          generalize (takenS p).1 = l at *
          have ct := Lib.hid Ct
          have HU3 := Aside0.mk (show unqL fuel p2 (out ++ l) = unqL q.size q0 [] ∧ p2.size ≤ fuel from ⟨hu, by omega⟩)
          have HM := Aside0.mk (show p2.size < p.size by omega)
          have HL := Aside0.mk (show (out ++ l).length + p2.size ≤ q.size by rw [List.length_append]; omega)
          clear hu hR hbd hok Ct hsz2
          go_wp2_with (first
            | (go_at_call 61
               refine (ct.out _).mono ?_
               rintro e1 v1 ⟨x1, rfl, hr1, hb1⟩
               obtain ⟨A1, c1, rfl, hl1, hC1⟩ := Kd.R_reads hr1
               have HC1 := Aside0.mk hC1
               have HB1 := Aside0.mk (hB.out.trans (hb1.mono hB.out.size))
               have HO1 := Aside0.mk (Kd.R_below hO.out hb1)
               clear hr1 hC1 hb1)
            | ((with_reducible refine gate_builtin (b := .append) (xs := #[.tmp 30, .tmp 31]) rfl ?_)
               at_builtin
               refine Kd.R_append_rows (Kd.int .u8) (w0 := w) w.heap.size rfl (.tmp 30) (.tmp 31) 39 5 (.int .u8 0) 1 rfl Tryd.underlying39 info_u8 rfl (by decide) (by omega) u4 out l _ _ _ (fun _ => True) (fun _ => False) rfl rfl HO1.out HC1.out (fun _ _ h => h) (fun _ h => h.elim) (fun _ _ => trivial) HB1.out HB1.out.size (by omega) ?_
               intro v2 w2 ho hb hg hat
               have HB2 := Aside0.mk hb
               have HO2 := Aside0.mk ho
               clear ho hb hg hat)
            | fail)
          go_roundw
          case rel => exact ⟨p2, out ++ l, fuel, rfl, HO2, HU3, HL.out, HB2⟩
          case measure => exact HM.out
        · have hof : (takenS p).2.2 = false := by simpa using hok
          rw [if_neg hok] at hu
          have hU := HU2.out
          rw [← hu] at hU
          simp only at hU
          subst hU
          rw [hof] at Ct
          have ct := Lib.hid Ct
          generalize (takenS p).2.1 = n at *
          generalize (takenS p).1 = l at *
          clear hu hR hbd hok hof Ct HU2
          go_wp2_with (first
            | (go_at_call 61
               refine (ct.out _).mono ?_
               rintro e1 v1 ⟨x1, rfl, hr1, hb1⟩)
            | fail)
          exact bodyPost_ret (v := .tuple #[.string ByteArray.empty, .int .i64 11]) (by simp [results, Tryd.results42, go_sem]; rfl) rfl ⟨rfl, hB.out.trans (hb1.mono hB.out.size)⟩
end Go.Proofs.YtpdinahdcedmkaaDoor.Ext
