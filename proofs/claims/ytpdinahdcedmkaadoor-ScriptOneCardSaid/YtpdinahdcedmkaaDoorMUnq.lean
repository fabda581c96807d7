import Derived.Test.YtpdinahdcedmkaaDoorMLab
/- octet.taken, octet.Unquote: the text of one in quotes. -/
namespace Go.Proofs.YtpdinahdcedmkaaDoor.Ext
set_option linter.unusedVariables false
open Go.RowKit Go.Proofs.YtpdinahdcedmkaaDoorW.PrintWords Go.Proofs.YtpdinahdcedmkaaDoorW.PrintLast Go.Proofs.YtpdinahdcedmkaaDoorW.PrintMore

/-- a piece of what stands between quotes: its bytes, its length, whether it is one -/
def takenS (q : ByteArray) : List Int × Nat × Bool :=
  if bt q 0 ≠ 92 then ([bt q 0], 1, true)
  else if q.size < 2 then ([], 0, false)
  else if bt q 1 ≠ 120 then ([bt q 1], 2, true)
  else if q.size < 4 then ([], 0, false)
  else ((unhexS (q.extract 2 4)).1, 4, (unhexS (q.extract 2 4)).2.2 == 0)
theorem sl_from (s : ByteArray) (i : Int) (h0 : 0 ≤ i) (h1 : i ≤ s.size) : ∀ W, (Instr.slice 9 (.string s) (some (.int .i64 i)) none none).run Tryd.prog W = .ok (.string (s.extract i.toNat s.size)) W := by
  intro W
  simp [go_sem, Tryd.underlying9, h0, h1]
theorem sl_both (s : ByteArray) (i j : Int) (h0 : 0 ≤ i) (h1 : i ≤ j) (h2 : j ≤ s.size) : ∀ W, (Instr.slice 9 (.string s) (some (.int .i64 i)) (some (.int .i64 j)) none).run Tryd.prog W = .ok (.string (s.extract i.toNat j.toNat)) W := by
  intro W
  simp [go_sem, Tryd.underlying9, h0, h1, h2]
theorem R_lit1 (W w : World) (b : Int) (hw : w.heap.size ≤ W.heap.size) : Kd.R (Kd.int .u8) 5 (W.alloc (.cells #[.int .u8 b] 5)) w.heap.size (fun _ => True) (.slice (some ⟨W.heap.size, 0, none⟩) 1 1) [b] :=
  Kd.R_of_own (World.ownsRow_lit (base := w.heap.size) (e := 5) (size := 1) W #[.int .u8 b] 1 hw (by simp [maxLen]) (by simp)) (fun _ _ => trivial)
set_option maxHeartbeats 2000000 in
set_option maxRecDepth 100000 in
theorem taken_walk (q : ByteArray) (w : World) (h0 : 0 < q.size) (hs : q.size ≤ 140737488351232) :
    Calls Tryd.prog 61 #[.string q] w fun e w' => ∃ v : Value, e = .returned (.tuple #[v, .int .i64 ((takenS q).2.1 : Int), .bool (takenS q).2.2]) ∧ Kd.R (Kd.int .u8) 5 w' w.heap.size (fun _ => True) v (takenS q).1 ∧ Below w.heap.size w w' := by
  obtain ⟨U, hU⟩ : ∃ U, takenS q = U := ⟨_, rfl⟩
  have HU := Lib.hid hU
  rw [hU]
  clear hU
  have hx0 : ∀ W, (Instr.index 9 (.string q) (.int .i64 0)).run Tryd.prog W = .ok (.int .u8 (bt q 0)) W := idx_str q 0 h0
  have hb0 := bt_range q 0
  by_cases c0 : bt q 0 = 92
  · rw [c0] at hx0
    by_cases c1 : q.size < 2
    · obtain rfl : U = ([], 0, false) := by rw [← HU.out]; unfold takenS; rw [if_neg (not_not_intro c0), if_pos c1]
      have t1 : (q.size : Int) < 2 := by omega
      clear c0 c1
      go_enter Tryd.func61, Tryd.ntmps61
      go_wp2
      exact bodyPost_ret (v := .tuple #[.slice none 0 0, .int .i64 0, .bool false]) (by simp [results, Tryd.results61, go_sem]) rfl ⟨_, rfl, Kd.R_nil _ _ _ _ _, Below.refl _ _⟩
    · have hx1 : ∀ W, (Instr.index 9 (.string q) (.int .i64 1)).run Tryd.prog W = .ok (.int .u8 (bt q 1)) W := idx_str q 1 (by omega)
      have hb1 := bt_range q 1
      have t1 : ¬ (q.size : Int) < 2 := by omega
      by_cases c2 : bt q 1 = 120
      · rw [c2] at hx1
        by_cases c3 : q.size < 4
        · obtain rfl : U = ([], 0, false) := by rw [← HU.out]; unfold takenS; rw [if_neg (not_not_intro c0), if_neg c1, if_neg (not_not_intro c2), if_pos c3]
          have t2 : (q.size : Int) < 4 := by omega
          clear c0 c1 c2 c3
          go_enter Tryd.func61, Tryd.ntmps61
          go_wp2
          exact bodyPost_ret (v := .tuple #[.slice none 0 0, .int .i64 0, .bool false]) (by simp [results, Tryd.results61, go_sem]) rfl ⟨_, rfl, Kd.R_nil _ _ _ _ _, Below.refl _ _⟩
        · have t2 : ¬ (q.size : Int) < 4 := by omega
          have hsl := sl_both q 2 4 (by decide) (by decide) (by omega)
          have Cu := fun W => unhex_walk (q.extract 2 4) W (by rw [ByteArray.size_extract]; omega)
          have hU := HU.out
          unfold takenS at hU
          rw [if_neg (not_not_intro c0), if_neg c1, if_neg (not_not_intro c2), if_neg c3] at hU
          have e24 : q.extract (2 : Int).toNat (4 : Int).toNat = q.extract 2 4 := rfl
          rw [e24] at hsl
          generalize q.extract 2 4 = p at *
          generalize unhexS p = V at *
          obtain ⟨l, n, e⟩ := V
          simp only at hU Cu
          subst hU
          have cu := Lib.hid Cu
          clear Cu c0 c1 c2 c3
          go_enter Tryd.func61, Tryd.ntmps61
          go_wp2_with (first
            | (go_at_call 40
               refine (cu.out _).mono ?_
               rintro e1 v1 ⟨x1, rfl, hr1, hb1⟩)
            | fail)
          exact bodyPost_ret (v := .tuple #[x1, .int .i64 4, .bool (e == 0)]) (by simp [results, Tryd.results61, go_sem]) rfl ⟨_, rfl, hr1, hb1⟩
      · obtain rfl : U = ([bt q 1], 2, true) := by rw [← HU.out]; unfold takenS; rw [if_neg (not_not_intro c0), if_neg c1, if_pos c2]
        have t2 : ((bt q 1) == 120) = false := beq_eq_false_iff_ne.2 c2
        clear c0 c1
        go_enter Tryd.func61, Tryd.ntmps61
        go_wp2
        exact bodyPost_ret (v := .tuple #[.slice (some ⟨w.heap.size, 0, none⟩) 1 1, .int .i64 2, .bool true]) (by simp [results, Tryd.results61, go_sem]) rfl ⟨_, rfl, R_lit1 w w _ (Nat.le_refl _), below_new _ _⟩
  · obtain rfl : U = ([bt q 0], 1, true) := by rw [← HU.out]; unfold takenS; rw [if_pos c0]
    have t0 : ((bt q 0) == 92) = false := beq_eq_false_iff_ne.2 c0
    go_enter Tryd.func61, Tryd.ntmps61
    go_wp2
    exact bodyPost_ret (v := .tuple #[.slice (some ⟨w.heap.size, 0, none⟩) 1 1, .int .i64 1, .bool true]) (by simp [results, Tryd.results61, go_sem]) rfl ⟨_, rfl, R_lit1 w w _ (Nat.le_refl _), below_new _ _⟩

/-- all pieces of what stands between quotes -/
def unqL : Nat → ByteArray → List Int → Option (List Int)
  | 0, _, out => some out
  | f + 1, q, out => if q.size = 0 then some out else if (takenS q).2.2 = true then unqL f (q.extract (takenS q).2.1 q.size) (out ++ (takenS q).1) else none
def unqS (q : ByteArray) : ByteArray × Int :=
  if q.size < 2 then (ByteArray.empty, 11) else match unqL q.size (q.extract 1 (q.size - 1)) [] with
    | none => (ByteArray.empty, 11)
    | some l => if quoteS (strOfNums l) = q then (strOfNums l, 0) else (ByteArray.empty, 11)
theorem taken_bd (q : ByteArray) (h0 : 0 < q.size) (h : (takenS q).2.2 = true) : 1 ≤ (takenS q).2.1 ∧ (takenS q).2.1 ≤ q.size ∧ (takenS q).1.length ≤ (takenS q).2.1 := by
  revert h
  unfold takenS
  by_cases c0 : bt q 0 ≠ 92
  · rw [if_pos c0]; intro _; simp; omega
  · rw [if_neg c0]
    by_cases c1 : q.size < 2
    · rw [if_pos c1]; intro h; cases h
    · rw [if_neg c1]
      by_cases c2 : bt q 1 ≠ 120
      · rw [if_pos c2]; intro _; simp; omega
      · rw [if_neg c2]
        by_cases c3 : q.size < 4
        · rw [if_pos c3]; intro h; cases h
        · rw [if_neg c3]
          intro _
          have := (unhexS_bytes (q.extract 2 4)).2
          rw [ByteArray.size_extract] at this
          simp only
          omega
def strLen : Value → Nat
  | .string s => s.size
  | _ => 0
theorem unqL_end (f : Nat) (q : ByteArray) (out : List Int) (h : q.size = 0) : unqL f q out = some out := by
  cases f with
  | zero => rfl
  | succ f => rw [unqL, if_pos h]
set_option maxHeartbeats 4000000 in
set_option maxRecDepth 100000 in
theorem unquote_walk (q : ByteArray) (w : World) (hs : q.size ≤ 17592186044416) (hT : Lib.Utf8Tabs 0 1 w) :
    Calls Tryd.prog 42 #[.string q] w fun e w' => e = .returned (.tuple #[.string (unqS q).1, .int .i64 (unqS q).2]) ∧ Below w.heap.size w w' := by
  obtain ⟨U, hU⟩ : ∃ U, unqS q = U := ⟨_, rfl⟩
  have HU := Lib.hid hU
  rw [hU]
  clear hU
  have HT := Lib.hid hT
  clear hT
  by_cases h2 : q.size < 2
  · obtain rfl : U = (ByteArray.empty, 11) := by rw [← HU.out]; unfold unqS; rw [if_pos h2]
    have t1 : (q.size : Int) < 2 := by omega
    clear h2
    go_enter Tryd.func42, Tryd.ntmps42
    go_wp2
    exact bodyPost_ret (v := .tuple #[.string ByteArray.empty, .int .i64 11]) (by simp [results, Tryd.results42, go_sem]; rfl) rfl ⟨rfl, Below.refl _ _⟩
  · have t1 : ¬ (q.size : Int) < 2 := by omega
    have hsl := sl_both q 1 ((q.size : Int) - 1) (by decide) (by omega) (by omega)
    have hin : q.extract (1 : Int).toNat ((q.size : Int) - 1).toNat = q.extract 1 (q.size - 1) := by congr 1; omega
    have hsz : (q.extract 1 (q.size - 1)).size + 2 = q.size := by rw [ByteArray.size_extract]; omega
    rw [hin] at hsl
    have hU := HU.out
    unfold unqS at hU
    rw [if_neg h2] at hU
    generalize q.extract 1 (q.size - 1) = q0 at *
    have HU2 := Lib.hid hU
    clear hU hin h2
    go_enter Tryd.func42, Tryd.ntmps42
    go_wp2
    go_loopw [4, 5] (fun v4 v5 wr => ∃ (p : ByteArray) (out : List Int) (fuel : Nat), v5 = .string p ∧ Aside0 (Kd.R (Kd.int .u8) 5 wr w.heap.size (fun _ => True) v4 out) ∧ Aside0 (unqL fuel p out = unqL q.size q0 [] ∧ p.size ≤ fuel) ∧ out.length + p.size ≤ q.size ∧ Aside0 (Below w.heap.size w wr)) (fun _ v5 _ => strLen v5)
    case atStart => exact ⟨q0, [], q.size, rfl, ⟨Kd.R_of_own (World.ownsRow_lit (base := w.heap.size) (e := 5) (size := 1) w #[] 0 (Nat.le_refl _) (by simp [maxLen]) (by simp)) (fun _ _ => trivial)⟩, ⟨rfl, by omega⟩, by simp; omega, ⟨(Below.refl _ _).alloc (Nat.le_refl _) _⟩⟩
    case round =>
      obtain ⟨p, out, fuel, rfl, hO, hR, hL, hB⟩ := hrel
      by_cases hp : p.size = 0
      · have t2 : ¬ (0 : Int) < (p.size : Int) := by omega
        have hu := hR.out.1
        rw [unqL_end _ _ _ hp] at hu
        have hU := HU2.out
        rw [← hu] at hU
        simp only at hU
        have hcv := own_string (P := Tryd.prog) (src := 39) (dst := 9) Tryd.underlying39 Tryd.underlying5 Tryd.underlying9 (Kd.own_of_R hO.out)
        have cq := Lib.hid (fun W hT => quote_walk (strOfNums out) W (by rw [strOfNums_size]; omega) hT)
        by_cases he : quoteS (strOfNums out) = q
        · rw [if_pos he] at hU
          have CQ := cq.out
          rw [he] at CQ
          have cq := Lib.hid CQ
          subst hU
          clear hu hR CQ he HU2
          go_wp2_with (first
            | (go_at_call 51
               refine (cq.out _ (Utf8Tabs_below HT.out hB.out)).mono ?_
               rintro e1 v1 ⟨rfl, hb1⟩)
            | fail)
          exact bodyPost_ret (v := .tuple #[.string (strOfNums out), .int .i64 0]) (by simp [results, Tryd.results42, go_sem]) rfl ⟨rfl, hB.out.trans (hb1.mono hB.out.size)⟩
        · rw [if_neg he] at hU
          have te := str_ne he
          subst hU
          generalize quoteS (strOfNums out) = S at *
          clear hu hR he HU2
          go_wp2_with (first
            | (go_at_call 51
               refine (cq.out _ (Utf8Tabs_below HT.out hB.out)).mono ?_
               rintro e1 v1 ⟨rfl, hb1⟩)
            | fail)
          exact bodyPost_ret (v := .tuple #[.string ByteArray.empty, .int .i64 11]) (by simp [results, Tryd.results42, go_sem]; rfl) rfl ⟨rfl, hB.out.trans (hb1.mono hB.out.size)⟩
      · have t2 : (0 : Int) < (p.size : Int) := by omega
        have h0 : 0 < p.size := by omega
        obtain ⟨fuel, rfl⟩ : ∃ k, fuel = k + 1 := ⟨fuel - 1, by have := hR.out.2; omega⟩
        have hu := hR.out.1
        rw [unqL, if_neg hp] at hu
        have Ct := fun W => taken_walk p W h0 (by omega)
        have hbd := taken_bd p h0
        have hf := hR.out.2
        by_cases hok : (takenS p).2.2 = true
        · rw [if_pos hok] at hu
          obtain ⟨b1, b2, b3⟩ := hbd hok
          rw [hok] at Ct
          have hsl2 := sl_from p ((takenS p).2.1 : Int) (by omega) (by omega)
          rw [Int.toNat_natCast] at hsl2
          have hsz2 : (p.extract (takenS p).2.1 p.size).size = p.size - (takenS p).2.1 := by rw [ByteArray.size_extract]; omega
          generalize p.extract (takenS p).2.1 p.size = p2 at *
          generalize (takenS p).2.1 = n at *
          generalize (takenS p).1 = l at *
          have ct := Lib.hid Ct
          have HU3 := Aside0.mk (show unqL fuel p2 (out ++ l) = unqL q.size q0 [] ∧ p2.size ≤ fuel from ⟨hu, by omega⟩)
          have HM := Aside0.mk (show p2.size < p.size by omega)
          have HL := Aside0.mk (show (out ++ l).length + p2.size ≤ q.size by rw [List.length_append]; omega)
          clear hu hR hbd hok Ct hsz2
          go_wp2_with (first
            | (go_at_call 61
               refine (ct.out _).mono ?_
               rintro e1 v1 ⟨x1, rfl, hr1, hb1⟩
               obtain ⟨A1, c1, rfl, hl1, hC1⟩ := Kd.R_reads hr1
               have HC1 := Aside0.mk hC1
               have HB1 := Aside0.mk (hB.out.trans (hb1.mono hB.out.size))
               have HO1 := Aside0.mk (Kd.R_below hO.out hb1)
               clear hr1 hC1 hb1)
            | ((with_reducible refine gate_builtin (b := .append) (xs := #[.tmp 30, .tmp 31]) rfl ?_)
               at_builtin
               refine Kd.R_append_rows (Kd.int .u8) (w0 := w) w.heap.size rfl (.tmp 30) (.tmp 31) 39 5 (.int .u8 0) 1 rfl Tryd.underlying39 info_u8 rfl (by decide) (by omega) u4 out l _ _ _ (fun _ => True) (fun _ => False) rfl rfl HO1.out HC1.out (fun _ _ h => h) (fun _ h => h.elim) (fun _ _ => trivial) HB1.out HB1.out.size (by omega) ?_
               intro v2 w2 ho hb hg hat
               have HB2 := Aside0.mk hb
               have HO2 := Aside0.mk ho
               clear ho hb hg hat)
            | fail)
          go_roundw
          case rel => exact ⟨p2, out ++ l, fuel, rfl, HO2, HU3, HL.out, HB2⟩
          case measure => exact HM.out
        · have hof : (takenS p).2.2 = false := by simpa using hok
          rw [if_neg hok] at hu
          have hU := HU2.out
          rw [← hu] at hU
          simp only at hU
          subst hU
          rw [hof] at Ct
          have ct := Lib.hid Ct
          generalize (takenS p).2.1 = n at *
          generalize (takenS p).1 = l at *
          clear hu hR hbd hok hof Ct HU2
          go_wp2_with (first
            | (go_at_call 61
               refine (ct.out _).mono ?_
               rintro e1 v1 ⟨x1, rfl, hr1, hb1⟩)
            | fail)
          exact bodyPost_ret (v := .tuple #[.string ByteArray.empty, .int .i64 11]) (by simp [results, Tryd.results42, go_sem]; rfl) rfl ⟨rfl, hB.out.trans (hb1.mono hB.out.size)⟩
end Go.Proofs.YtpdinahdcedmkaaDoor.Ext
/- What octet.Quote has put into quotes octet.Unquote takes out of them. -/
namespace Go.Proofs.YtpdinahdcedmkaaDoor.Ext
set_option linter.unusedVariables false
open Go.RowKit Go.Proofs.YtpdinahdcedmkaaDoorW.PrintWords Go.Proofs.YtpdinahdcedmkaaDoorW.PrintLast Go.Proofs.YtpdinahdcedmkaaDoorW.PrintMore

theorem extract_list (s : ByteArray) (i j : Nat) : (s.extract i j).data.toList = (s.data.toList.take j).drop i := by
  rw [ByteArray.data_extract, Array.toList_extract, List.extract_eq_take_drop, List.drop_take]
theorem extract_nums (l : List Int) (i j : Nat) : (strOfNums l).extract i j = strOfNums ((l.take j).drop i) := by
  apply ByteArray.ext
  rw [← Array.toList_inj, extract_list, strOfNums_data, strOfNums_data, List.map_drop, List.map_take]
theorem bt_list (s : ByteArray) (i : Nat) (h : i < s.size) : bt s i = ((s.data.toList.getD i 0).toNat : Int) := by
  have h' : i < s.data.size := h
  unfold bt
  rw [dif_pos (show (i : Int).toNat < s.size by simpa using h)]
  simp [List.getD_eq_getElem?_getD]
  rw [Array.getElem?_eq_getElem h']
  rfl
theorem bt_nums (l : List Int) (i : Nat) (h : i < l.length) (hb : 0 ≤ l.getD i 0 ∧ l.getD i 0 ≤ 255) : bt (strOfNums l) i = l.getD i 0 := by
  rw [bt_list _ _ (by rw [strOfNums_size]; exact h), strOfNums_data]
  simp [List.getD_eq_getElem?_getD, h] at hb ⊢
  omega
theorem unqL_plain (b : Int) (t out : List Int) (F : Nat) (hF : (b :: t).length ≤ F) (hb : 0 ≤ b ∧ b ≤ 255) (hne : b ≠ 92) : ∃ F', t.length ≤ F' ∧ unqL F (strOfNums (b :: t)) out = unqL F' (strOfNums t) (out ++ [b]) := by
  obtain ⟨F', rfl⟩ : ∃ k, F = k + 1 := ⟨F - 1, by simp at hF; omega⟩
  refine ⟨F', by simpa using hF, ?_⟩
  have h0 : bt (strOfNums (b :: t)) 0 = b := bt_nums (b :: t) 0 (by simp) hb
  have ht : takenS (strOfNums (b :: t)) = ([b], 1, true) := by unfold takenS; rw [if_pos (by rw [h0]; exact hne), h0]
  rw [unqL, if_neg (by rw [strOfNums_size]; simp), ht]
  simp only [if_true]
  rw [extract_nums, strOfNums_size, List.take_of_length_le (Nat.le_refl _)]
  rfl
theorem unqL_plains : ∀ (p t out : List Int) (F : Nat), (p ++ t).length ≤ F → (∀ b ∈ p, (0 ≤ b ∧ b ≤ 255) ∧ b ≠ 92) → ∃ F', t.length ≤ F' ∧ unqL F (strOfNums (p ++ t)) out = unqL F' (strOfNums t) (out ++ p)
  | [], t, out, F, hF, _ => ⟨F, hF, by simp⟩
  | b :: p, t, out, F, hF, h => by
    obtain ⟨F1, h1, e1⟩ := unqL_plain b (p ++ t) out F hF (h b (by simp)).1 (h b (by simp)).2
    obtain ⟨F2, h2, e2⟩ := unqL_plains p t (out ++ [b]) F1 h1 (fun x hx => h x (by simp [hx]))
    exact ⟨F2, h2, by rw [List.cons_append, e1, e2]; simp⟩
theorem unqL_two (b : Int) (t out : List Int) (F : Nat) (hF : (92 :: b :: t).length ≤ F) (hb : 0 ≤ b ∧ b ≤ 255) (hne : b ≠ 120) : ∃ F', t.length ≤ F' ∧ unqL F (strOfNums (92 :: b :: t)) out = unqL F' (strOfNums t) (out ++ [b]) := by
  obtain ⟨F', rfl⟩ : ∃ k, F = k + 1 := ⟨F - 1, by simp at hF; omega⟩
  refine ⟨F', by simp at hF; omega, ?_⟩
  have h0 : bt (strOfNums (92 :: b :: t)) 0 = 92 := bt_nums (92 :: b :: t) 0 (by simp) (by simp)
  have h1 : bt (strOfNums (92 :: b :: t)) 1 = b := bt_nums (92 :: b :: t) 1 (by simp) (by simpa using hb)
  have hz : (strOfNums (92 :: b :: t)).size = t.length + 2 := by rw [strOfNums_size]; rfl
  have ht : takenS (strOfNums (92 :: b :: t)) = ([b], 2, true) := by unfold takenS; rw [if_neg (by rw [h0]; simp), if_neg (by omega), if_pos (by rw [h1]; exact hne), h1]
  rw [unqL, if_neg (by omega), ht]
  simp only [if_true]
  rw [extract_nums, strOfNums_size, List.take_of_length_le (Nat.le_refl _)]
  rfl
theorem unqL_hex (b : Int) (t out : List Int) (F : Nat) (hF : (92 :: 120 :: hexd (b / 16) :: hexd (b % 16) :: t).length ≤ F) (hb : 0 ≤ b ∧ b ≤ 255) : ∃ F', t.length ≤ F' ∧ unqL F (strOfNums (92 :: 120 :: hexd (b / 16) :: hexd (b % 16) :: t)) out = unqL F' (strOfNums t) (out ++ [b]) := by
  obtain ⟨F', rfl⟩ : ∃ k, F = k + 1 := ⟨F - 1, by simp at hF; omega⟩
  refine ⟨F', by simp at hF; omega, ?_⟩
  have hu : unhexS (strOfNums [hexd (b / 16), hexd (b % 16)]) = ([b], 2, 0) := unhex_hex [b] (fun x hx => by simp at hx; omega)
  generalize hexd (b / 16) = x at *
  generalize hexd (b % 16) = y at *
  have h0 : bt (strOfNums (92 :: 120 :: x :: y :: t)) 0 = 92 := bt_nums (92 :: 120 :: x :: y :: t) 0 (by simp) (by simp)
  have h1 : bt (strOfNums (92 :: 120 :: x :: y :: t)) 1 = 120 := bt_nums (92 :: 120 :: x :: y :: t) 1 (by simp) (by simp)
  have hz : (strOfNums (92 :: 120 :: x :: y :: t)).size = t.length + 4 := by rw [strOfNums_size]; rfl
  have hx : (strOfNums (92 :: 120 :: x :: y :: t)).extract 2 4 = strOfNums [x, y] := by rw [extract_nums]; rfl
  have ht : takenS (strOfNums (92 :: 120 :: x :: y :: t)) = ([b], 4, true) := by
    unfold takenS
    rw [if_neg (by rw [h0]; simp), if_neg (by omega), if_neg (by rw [h1]; simp), if_neg (by omega), hx, hu]
    rfl
  rw [unqL, if_neg (by omega), ht]
  simp only [if_true]
  rw [extract_nums, strOfNums_size, List.take_of_length_le (Nat.le_refl _)]
  rfl
theorem bytes_ext1 (s : ByteArray) (pos : Nat) (h : pos < s.size) : bytesOf (s.extract pos (pos + 1)) = [bt s pos] := by
  unfold bytesOf
  have hl : pos < s.data.toList.length := by rw [size_data]; exact h
  rw [extract_list, bt_list s pos h, List.drop_take, show pos + 1 - pos = 1 by omega, List.drop_eq_getElem_cons hl]
  simp only [List.take_succ_cons, List.take_zero, List.map_cons, List.map_nil, List.getD_eq_getElem?_getD, List.getElem?_eq_getElem hl]
  rfl
theorem bytes_rune (s : ByteArray) (pos : Nat) (h : pos < s.size) (hv : ¬ ((Utf8.decode s pos).1 = 65533 ∧ (Utf8.decode s pos).2 = 1)) (h92 : (Utf8.decode s pos).1 ≠ 92) : ∀ b ∈ bytesOf (s.extract pos (pos + (Utf8.decode s pos).2)), (0 ≤ b ∧ b ≤ 255) ∧ b ≠ 92 := by
  have hne : s.data.toList.drop pos ≠ [] := by
    intro h0
    have := congrArg List.length h0
    simp only [List.length_drop, Array.length_toList, List.length_nil] at this
    have : s.data.size = s.size := rfl
    omega
  have e := Lib.encode_decode (s.data.toList.drop pos) hne (by rw [Lib.decodeL_drop]; exact hv)
  rw [Lib.decodeL_drop] at e
  intro b hb
  unfold bytesOf at hb
  rw [extract_list, List.drop_take, show pos + (Utf8.decode s pos).2 - pos = (Utf8.decode s pos).2 by omega, ← e] at hb
  unfold Lib.encodeRune at hb
  rw [List.map_map, List.mem_map] at hb
  obtain ⟨x, hx, rfl⟩ := hb
  have hxb := Lib.encodeRuneZ_byte _ x hx
  have hx92 : x ≠ 92 := by
    generalize (Utf8.decode s pos).1 = r at *
    unfold Lib.encodeRuneZ at hx
    repeat' split at hx
    all_goals simp at hx; omega
  simp
  omega
theorem unqL_quote (s : ByteArray) : ∀ (f pos F : Nat) (out : List Int), s.size ≤ pos + f → (quoteF s (rns s f pos)).length ≤ F → unqL F (strOfNums (quoteF s (rns s f pos))) out = some (out ++ bytesOf (s.extract pos s.size))
  | f, pos, F, out, hf, hF => by
    by_cases h : pos < s.size
    · have hw := Lib.decode_width_pos s pos h
      have hwl := width_le' s pos h
      obtain ⟨f', rfl⟩ : ∃ f', f = f' + 1 := ⟨f - 1, by omega⟩
      have he : quoteF s (rns s (f' + 1) pos) = quoteP s (pos, (Utf8.decode s pos).1, (Utf8.decode s pos).2) ++ quoteF s (rns s f' (pos + (Utf8.decode s pos).2)) := by
        simp only [rns, if_pos h]
        rfl
      rw [he] at hF ⊢
      have key : ∃ F', (quoteF s (rns s f' (pos + (Utf8.decode s pos).2))).length ≤ F' ∧ unqL F (strOfNums (quoteP s (pos, (Utf8.decode s pos).1, (Utf8.decode s pos).2) ++ quoteF s (rns s f' (pos + (Utf8.decode s pos).2)))) out = unqL F' (strOfNums (quoteF s (rns s f' (pos + (Utf8.decode s pos).2)))) (out ++ bytesOf (s.extract pos (pos + (Utf8.decode s pos).2))) := by
        have hbt := bt_range s pos
        have low : (Utf8.decode s pos).1 < 128 → (Utf8.decode s pos).2 = 1 ∧ bt s pos = ((Utf8.decode s pos).1 : Int) := fun hl => by
          have := decode_low' s pos h hl
          rw [this, bt_list s pos h]
          exact ⟨rfl, rfl⟩
        by_cases c1 : (Utf8.decode s pos).1 = 34 ∨ (Utf8.decode s pos).1 = 92
        · have hP : quoteP s (pos, (Utf8.decode s pos).1, (Utf8.decode s pos).2) = [92, ((Utf8.decode s pos).1 : Int)] := by unfold quoteP; rw [if_pos c1]
          obtain ⟨l1, l2⟩ := low (by omega)
          rw [hP] at hF ⊢
          rw [l1, bytes_ext1 s pos h, l2]
          rw [l1] at hF
          exact unqL_two _ _ _ _ hF (by omega) (by omega)
        · by_cases c2 : (Utf8.decode s pos).1 < 32 ∨ (Utf8.decode s pos).1 = 127 ∨ ((Utf8.decode s pos).1 = 65533 ∧ (Utf8.decode s pos).2 = 1)
          · have hP : quoteP s (pos, (Utf8.decode s pos).1, (Utf8.decode s pos).2) = [92, 120, hexd (bt s pos / 16), hexd (bt s pos % 16)] := by unfold quoteP; rw [if_neg c1, if_pos c2]
            have l1 : (Utf8.decode s pos).2 = 1 := by
              rcases c2 with c | c | c
              · exact (low (by omega)).1
              · exact (low (by omega)).1
              · exact c.2
            rw [hP] at hF ⊢
            rw [l1, bytes_ext1 s pos h]
            rw [l1] at hF
            exact unqL_hex _ _ _ _ hF hbt
          · have hP : quoteP s (pos, (Utf8.decode s pos).1, (Utf8.decode s pos).2) = bytesOf (s.extract pos (pos + (Utf8.decode s pos).2)) := by unfold quoteP; rw [if_neg c1, if_neg c2]
            rw [hP] at hF ⊢
            exact unqL_plains _ _ _ _ hF (bytes_rune s pos h (by omega) (by omega))
      obtain ⟨F', h1, h2⟩ := key
      rw [h2, unqL_quote s f' (pos + (Utf8.decode s pos).2) F' _ (by omega) h1, List.append_assoc, ← bytesOf_append, extract_split s _ _ (by omega) hwl]
    · rw [rns_end s f pos h]
      have : (s.extract pos s.size).size = 0 := by rw [ByteArray.size_extract]; omega
      rw [show quoteF s [] = [] from rfl, unqL_end _ _ _ (by rw [strOfNums_size]; rfl)]
      have e : bytesOf (s.extract pos s.size) = [] := by
        apply List.length_eq_zero_iff.1
        rw [bytesOf_length]
        exact this
      rw [e]
      simp
theorem unq_quote (s : ByteArray) : unqS (quoteS s) = (s, 0) := by
  have hz : (quoteS s).size = (quoteF s (runesOf s)).length + 2 := by unfold quoteS; rw [strOfNums_size]; simp
  have hx : (quoteS s).extract 1 ((quoteS s).size - 1) = strOfNums (quoteF s (runesOf s)) := by
    rw [hz]
    unfold quoteS
    rw [extract_nums]
    congr 1
    rw [show (quoteF s (runesOf s)).length + 2 - 1 = (quoteF s (runesOf s)).length + 1 by omega]
    simp
  unfold unqS
  rw [if_neg (by omega), hx]
  have := unqL_quote s s.size 0 (quoteS s).size [] (by omega) (by rw [hz]; exact Nat.le_add_right _ _)
  unfold runesOf
  rw [this]
  simp only [List.nil_append]
  rw [show s.extract 0 s.size = s by simp, strOfNums_bytesOf, if_pos rfl]
end Go.Proofs.YtpdinahdcedmkaaDoor.Ext
