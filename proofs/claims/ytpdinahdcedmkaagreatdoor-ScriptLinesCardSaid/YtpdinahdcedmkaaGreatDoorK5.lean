import Derived.Test.YtpdinahdcedmkaaGreatDoorK4
import Derived.Deep.WholeRow
import Derived.Great.BuildSlice
import Derived.Lib.Builder
import Derived.Shelf.Strings.Builder1
import Derived.Test.YtpdinahdcedmkaaGreatDoorWWords
import Derived.Test.YtpdinahdcedmkaaGreatDoorWRest
set_option maxHeartbeats 4000000
set_option maxRecDepth 100000
/- What comes back, plainly: numbers in bytes, bits, digits, decimals. -/
namespace Go.Proofs.YtpdinahdcedmkaaGreatDoor.Ext
set_option linter.unusedVariables false
open Go.RowKit Go.Proofs.YtpdinahdcedmkaaGreatDoorW.PrintWords Go.Proofs.YtpdinahdcedmkaaGreatDoorW.PrintLast Go.Proofs.YtpdinahdcedmkaaGreatDoorW.PrintMore
/-! ### numbers in bytes -/
/-! ### bits -/
/-! ### texts of single bytes -/
theorem size_data (s : ByteArray) : s.data.toList.length = s.size := by rw [Array.length_toList]; rfl
theorem get_list (s : ByteArray) (i : Nat) (h : i < s.size) : (s.get! i) = s.data.toList.getD i 0 := by
 have h' : i < s.data.size := h
 show s.data[i]! = _
 rw [getElem!_pos s.data i h']
 simp [List.getD_eq_getElem?_getD]
 rw [Array.getElem?_eq_getElem h']
 rfl
theorem decode_low (s : ByteArray) (pos : Nat) (h : pos < s.size) (hb : (s.data.toList.getD pos 0).toNat < 128) : Utf8.decode s pos = ((s.data.toList.getD pos 0).toNat, 1) := by
 rw [Lib.decode_at, get_list s pos h]
 unfold Lib.decodeN
 rw [if_pos hb]
theorem decode_low' (s : ByteArray) (pos : Nat) (h : pos < s.size) (hr : (Utf8.decode s pos).1 < 128) : Utf8.decode s pos = ((s.data.toList.getD pos 0).toNat, 1) := by
 rw [Lib.decode_at, get_list s pos h] at *
 rcases Lib.decodeN_shape (s.size - pos) (s.data.toList.getD pos 0).toNat (s.get! (pos + 1)).toNat (s.get! (pos + 2)).toNat (s.get! (pos + 3)).toNat with ⟨c, e⟩ | ⟨k1, k2, k3, cv, e⟩ | ⟨k1, k2, k3, k4, cv, cs, e⟩ | ⟨k1, k2, k3, k4, k5, cv, cw, e⟩ | e
 · exact e
 all_goals rw [e] at hr; simp only at hr; omega
theorem rns_low (s : ByteArray) : ∀ (f pos : Nat), s.size <= pos + f -> (∀ i, pos <= i -> i < s.size -> (s.data.toList.getD i 0).toNat < 128) -> rv (rns s f pos) = (s.data.toList.drop pos).map UInt8.toNat
 | f, pos, hf, ha => by
   by_cases h : pos < s.size
   · obtain ⟨f', rfl⟩ : ∃ f', f = f' + 1 := ⟨f - 1, by omega⟩
     have hd := decode_low s pos h (ha pos (Nat.le_refl _) h)
     have ih := rns_low s f' (pos + 1) (by omega) (fun i h1 h2 => ha i (by omega) h2)
     simp only [rns, if_pos h, hd]
     unfold rv at ih ⊢
     rw [List.map_cons, ih]
     have hl : pos < s.data.toList.length := by rw [size_data]; exact h
     rw [List.drop_eq_getElem_cons hl, List.map_cons]
     congr 1
     simp [List.getD_eq_getElem?_getD, List.getElem?_eq_getElem hl]
   · rw [rns_end s f pos h, List.drop_eq_nil_of_le (by rw [size_data]; omega)]
     rfl
/-- where every rune is a low one the runes are the bytes -/
theorem rns_low' (s : ByteArray) : ∀ (f pos : Nat), s.size <= pos + f -> (∀ r ∈ rv (rns s f pos), r < 128) -> rv (rns s f pos) = (s.data.toList.drop pos).map UInt8.toNat
 | f, pos, hf, ha => by
   by_cases h : pos < s.size
   · obtain ⟨f', rfl⟩ : ∃ f', f = f' + 1 := ⟨f - 1, by omega⟩
     simp only [rns, if_pos h] at ha
     have hd := decode_low' s pos h (ha _ (by simp [rv]))
     rw [hd] at ha
     have ih := rns_low' s f' (pos + 1) (by omega) (fun r hr => ha r (by simp only [rv, List.map_cons, List.mem_cons]; exact .inr hr))
     simp only [rns, if_pos h, hd]
     unfold rv at ih ⊢
     rw [List.map_cons, ih]
     have hl : pos < s.data.toList.length := by rw [size_data]; exact h
     rw [List.drop_eq_getElem_cons hl, List.map_cons]
     congr 1
     simp [List.getD_eq_getElem?_getD, List.getElem?_eq_getElem hl]
   · rw [rns_end s f pos h, List.drop_eq_nil_of_le (by rw [size_data]; omega)]
     rfl
def Low (l : List Int) : Prop := ∀ x ∈ l, 0 <= x /\ x < 128
theorem nums_toNat (l : List Int) (h : Bytes l) : (strOfNums l).data.toList.map UInt8.toNat = l.map Int.toNat := by
 rw [strOfNums_data, List.map_map]
 apply List.map_congr_left
 intro x hx
 have := h x hx
 simp
 omega
theorem Low.bytes {l : List Int} (h : Low l) : Bytes l := fun x hx => by have := h x hx; omega
theorem runes_low (l : List Int) (h : Low l) : rv (runesOf (strOfNums l)) = l.map Int.toNat := by
 unfold runesOf
 rw [rns_low _ _ 0 (by omega), List.drop_zero, nums_toNat l h.bytes]
 intro i _ hi
 have hl : i < l.length := by rw [strOfNums_size] at hi; exact hi
 have := h l[i] (List.getElem_mem hl)
 rw [strOfNums_data]
 simp [List.getD_eq_getElem?_getD, hl]
 omega
/-- a text of low runes from its runes -/
theorem str_low (s : ByteArray) (h : ∀ r ∈ rv (runesOf s), r < 128) : s = strOfNums ((rv (runesOf s)).map Int.ofNat) := by
 have e := rns_low' s s.size 0 (by omega) h
 unfold runesOf
 rw [e, List.drop_zero]
 conv => lhs; rw [<- strOfNums_bytesOf s]
 rw [bytesOf, List.map_map]
 rfl
/-! ### digits -/
theorem unhexR_all : ∀ (L : List Nat) (ds : List Int), (∀ r ∈ L, isd r = true) -> unhexR ds L = if (ds ++ L.map dv).length % 2 = 1 then ([], ((ds ++ L.map dv).length : Int), 10) else (pk (ds ++ L.map dv), ((ds ++ L.map dv).length : Int), 0)
 | [], ds, _ => by simp [unhexR]
 | r :: t, ds, h => by
   rw [unhexR, if_pos (h r (by simp)), unhexR_all t _ (fun x hx => h x (by simp [hx]))]
   simp
theorem unhexR_ok : ∀ (L : List Nat) (ds : List Int), (unhexR ds L).2.2 = 0 -> ∀ r ∈ L, isd r = true
 | [], ds, _, r, hr => by simp at hr
 | a :: t, ds, h, r, hr => by
   rw [unhexR] at h
   by_cases e : isd a = true
   · rw [if_pos e] at h
     rcases List.mem_cons.1 hr with rfl | hr
     · exact e
     · exact unhexR_ok t _ h r hr
   · rw [if_neg e] at h; exact absurd h (show ¬ (10 : Int) = 0 by decide)
theorem hexd_dv (r : Nat) (h : isd r = true) : hexd (dv r) = (r : Int) := by
 unfold isd at h
 simp at h
 unfold dv hexd
 split <;> split <;> omega
theorem dv_hexd (x : Int) (h0 : 0 <= x) (h1 : x < 16) : isd (hexd x).toNat = true /\ dv (hexd x).toNat = x := by
 obtain ⟨n, rfl⟩ := Int.eq_ofNat_of_zero_le h0
 have : ∀ n : Fin 16, isd (hexd ((n.val : Nat) : Int)).toNat = true /\ dv (hexd ((n.val : Nat) : Int)).toNat = ((n.val : Nat) : Int) := by decide +kernel
 exact this ⟨n, by omega⟩
theorem hexd_low (x : Int) (h0 : 0 <= x) (h1 : x < 16) : 0 <= hexd x /\ hexd x < 128 := by unfold hexd; split <;> omega
theorem pk_nib : ∀ l : List Int, Bytes l -> pk (l.flatMap fun x => [x / 16, x % 16]) = l
 | [], _ => rfl
 | x :: l, h => by
   have ih := pk_nib l (fun y hy => h y (by simp [hy]))
   have := h x (by simp)
   simp only [List.flatMap_cons, List.cons_append, List.nil_append, pk, ih]
   congr 1
   omega
theorem hexS_pk : ∀ D : List Int, D.length % 2 = 0 -> (∀ x ∈ D, 0 <= x /\ x < 16) -> hexS (pk D) = D.map hexd
 | [], _, _ => rfl
 | [a], h, _ => by simp at h
 | a :: b :: t, h, hb => by
   have ih := hexS_pk t (by simp at h; omega) (fun x hx => hb x (by simp [hx]))
   have ha := hb a (by simp)
   have hb' := hb b (by simp)
   unfold hexS at ih ⊢
   simp only [pk, List.flatMap_cons, ih, List.map_cons, List.cons_append, List.nil_append]
   rw [show (a * 16 + b) / 16 = a by omega, show (a * 16 + b) % 16 = b by omega]
theorem hexS_low (l : List Int) (h : Bytes l) : Low (hexS l) := by
 intro x hx
 unfold hexS at hx
 rw [List.mem_flatMap] at hx
 obtain ⟨y, hy, hx⟩ := hx
 have := h y hy
 simp only [List.mem_cons, List.not_mem_nil, or_false] at hx
 rcases hx with rfl | rfl
 · exact hexd_low _ (by omega) (by omega)
 · exact hexd_low _ (by omega) (by omega)
theorem unhex_hex (l : List Int) (h : Bytes l) : unhexS (strOfNums (hexS l)) = (l, 2 * (l.length : Int), 0) := by
 unfold unhexS
 rw [runes_low _ (hexS_low l h)]
 have hd : ∀ r ∈ (hexS l).map Int.toNat, isd r = true := by
  intro r hr
  rw [List.mem_map] at hr
  obtain ⟨x, hx, rfl⟩ := hr
  unfold hexS at hx
  rw [List.mem_flatMap] at hx
  obtain ⟨y, hy, hx⟩ := hx
  have := h y hy
  simp only [List.mem_cons, List.not_mem_nil, or_false] at hx
  rcases hx with rfl | rfl
  · exact (dv_hexd _ (by omega) (by omega)).1
  · exact (dv_hexd _ (by omega) (by omega)).1
 rw [unhexR_all _ _ hd, List.nil_append]
 have e : ((hexS l).map Int.toNat).map dv = l.flatMap fun x => [x / 16, x % 16] := by
  clear hd
  unfold hexS
  induction l with
  | nil => rfl
  | cons x l ih =>
    have := h x (by simp)
    simp only [List.flatMap_cons, List.map_append, ih (fun y hy => h y (by simp [hy])), List.map_cons, List.map_nil]
    rw [(dv_hexd (x / 16) (by omega) (by omega)).2, (dv_hexd (x % 16) (by omega) (by omega)).2]
 have hlen : (((hexS l).map Int.toNat).map dv).length = 2 * l.length := by rw [List.length_map, List.length_map, hexS_len]
 rw [if_neg (by omega), hlen, e, pk_nib l h]
 simp
theorem hex_unhex (s : ByteArray) (h : (unhexS s).2.2 = 0) : strOfNums (hexS (unhexS s).1) = s := by
 unfold unhexS at h
 have hd := unhexR_ok _ _ h
 have hs : s = strOfNums ((rv (runesOf s)).map Int.ofNat) := str_low s (fun r hr => by
  have := hd r hr
  unfold isd at this
  simp at this
  omega)
 unfold unhexS
 rw [unhexR_all _ _ hd, List.nil_append] at h ⊢
 by_cases hp : ((rv (runesOf s)).map dv).length % 2 = 1
 · rw [if_pos hp] at h; exact absurd h (show ¬ (10 : Int) = 0 by decide)
 · rw [if_neg hp]
   simp only
   rw [hexS_pk _ (by omega) (fun x hx => by
    rw [List.mem_map] at hx
    obtain ⟨r, hr, rfl⟩ := hx
    exact dv_bd (hd r hr)), List.map_map]
   conv => rhs; rw [hs]
   congr 1
   apply List.map_congr_left
   intro r hr
   exact hexd_dv r (hd r hr)
theorem pk_bytes : ∀ D : List Int, (∀ x ∈ D, 0 <= x /\ x < 16) -> Bytes (pk D)
 | [], _ => by intro x hx; simp [pk] at hx
 | [a], h => by
   intro x hx
   have := h a (by simp)
   simp [pk] at hx
   omega
 | a :: b :: t, h => by
   intro x hx
   have ha := h a (by simp)
   have hb := h b (by simp)
   simp only [pk, List.mem_cons] at hx
   rcases hx with rfl | hx
   · omega
   · exact pk_bytes t (fun y hy => h y (by simp [hy])) x hx
theorem unhexR_bytes : ∀ (L : List Nat) (ds : List Int), (∀ x ∈ ds, 0 <= x /\ x < 16) -> Bytes (unhexR ds L).1 /\ (unhexR ds L).1.length <= ds.length + L.length
 | [], ds, h => by
   rw [unhexR]
   split
   · exact ⟨fun x hx => by simp at hx, by simp⟩
   · exact ⟨pk_bytes ds h, by rw [pk_len]; simp; omega⟩
 | r :: t, ds, h => by
   rw [unhexR]
   split
   · rename_i e
     have ih := unhexR_bytes t (ds ++ [dv r]) (fun x hx => by
      rcases List.mem_append.1 hx with hx | hx
      · exact h x hx
      · simp at hx; subst hx; exact dv_bd e)
     refine ⟨ih.1, ?_⟩
     have := ih.2
     simp at this ⊢
     omega
   · exact ⟨fun x hx => by simp at hx, by simp⟩
theorem unhexS_bytes (s : ByteArray) : Bytes (unhexS s).1 /\ (unhexS s).1.length <= s.size := by
 have h := unhexR_bytes (rv (runesOf s)) [] (by simp)
 refine ⟨h.1, ?_⟩
 have h2 := h.2
 have h3 := rns_len s s.size 0
 have h4 : (rv (runesOf s)).length = (rns s s.size 0).length := by simp [rv, runesOf]
 unfold unhexS
 simp only [List.length_nil] at h2
 omega
/-! ### decimals -/
theorem decL_len : ∀ (k n : Nat), n < 10 ^ (k + 1) -> (decL n).length <= k + 1
 | 0, n, h => by rw [decL_lt (by simpa using h)]; simp
 | k + 1, n, h => by
   by_cases h1 : n < 10
   · rw [decL_lt h1]; simp
   · rw [decL_ge h1, List.length_append]
     have := decL_len k (n / 10) (by rw [Nat.pow_succ] at h; omega)
     simp
     omega
theorem decL_low (n : Nat) : ∀ x ∈ decL n, 48 <= x /\ x <= 57 := by
 induction n using Nat.strongRecOn with
 | ind n ih =>
   intro x hx
   by_cases h : n < 10
   · rw [decL_lt h] at hx; simp at hx; omega
   · rw [decL_ge h, List.mem_append] at hx
     rcases hx with hx | hx
     · exact ih (n / 10) (by omega) x hx
     · simp at hx; omega
theorem numR_app : ∀ (a b : List Nat) (n : Int), numR (a ++ b) n = (numR a n).bind (numR b)
 | [], b, n => rfl
 | r :: t, b, n => by
   simp only [List.cons_append, numR]
   split
   · exact numR_app t b _
   · rfl
theorem numR_dec (n : Nat) (hn : n < 18446744073709551616) : numR ((decL n).map Int.toNat) 0 = some (n : Int) := by
 induction n using Nat.strongRecOn with
 | ind n ih =>
   by_cases h : n < 10
   · rw [decL_lt h]
     simp only [List.map_cons, List.map_nil, numR]
     rw [if_pos (by omega)]
     unfold stepN
     rw [IntKind.wrap_u64, IntKind.wrap_u64]
     congr 1
     omega
   · rw [decL_ge h, List.map_append, numR_app, ih (n / 10) (by omega) (by omega)]
     simp only [Option.bind_some, List.map_cons, List.map_nil, numR]
     rw [if_pos (by omega)]
     unfold stepN
     rw [IntKind.wrap_u64, IntKind.wrap_u64]
     congr 1
     omega
theorem num_dec (n : Nat) (hn : n < 18446744073709551616) : numS (strOfNums (decL n)) = ((n : Int), 0) := by
 have hl := decL_len 19 n (by omega)
 have hp := decL_pos n
 have hlow : Low (decL n) := fun x hx => by have := decL_low n x hx; omega
 unfold numS
 rw [strOfNums_size, if_neg (by omega), runes_low _ hlow, numR_dec n hn]
 simp
theorem numR_bd : ∀ (L : List Nat) (n m : Int), 0 <= n /\ n <= 18446744073709551615 -> numR L n = some m -> 0 <= m /\ m <= 18446744073709551615
 | [], n, m, h, e => by
   simp only [numR, Option.some.injEq] at e
   omega
 | r :: t, n, m, h, e => by
   simp only [numR] at e
   split at e
   · exact numR_bd t _ m (stepN_bd n r) e
   · cases e
theorem numS_bd (s : ByteArray) : 0 <= (numS s).1 /\ (numS s).1 < 18446744073709551616 := by
 unfold numS
 split
 · simp
 · split
   · simp
   · rename_i n e
     have := numR_bd _ _ _ (by omega) e
     split
     · simp only; omega
     · simp
/-- a piece of what stands between quotes: its bytes, its length, whether it is one -/
def takenS (q : ByteArray) : List Int × Nat × Bool :=
 if bt q 0 ≠ 92 then ([bt q 0], 1, true)
 else if q.size < 2 then ([], 0, false)
 else if bt q 1 ≠ 120 then ([bt q 1], 2, true)
 else if q.size < 4 then ([], 0, false)
 else ((unhexS (q.extract 2 4)).1, 4, (unhexS (q.extract 2 4)).2.2 == 0)
theorem sl_from (s : ByteArray) (i : Int) (h0 : 0 <= i) (h1 : i <= s.size) : ∀ W, (Instr.slice 9 (.string s) (some (.int .i64 i)) none none).run Tryz.prog W = .ok (.string (s.extract i.toNat s.size)) W := by
 intro W
 simp [go_sem, Tryz.underlying9, h0, h1]
theorem sl_both (s : ByteArray) (i j : Int) (h0 : 0 <= i) (h1 : i <= j) (h2 : j <= s.size) : ∀ W, (Instr.slice 9 (.string s) (some (.int .i64 i)) (some (.int .i64 j)) none).run Tryz.prog W = .ok (.string (s.extract i.toNat j.toNat)) W := by
 intro W
 simp [go_sem, Tryz.underlying9, h0, h1, h2]
theorem R_lit1 (W w : World) (b : Int) (hw : w.heap.size <= W.heap.size) : Kd.R (Kd.int .u8) 5 (W.alloc (.cells #[.int .u8 b] 5)) w.heap.size (fun _ => True) (.slice (some ⟨W.heap.size, 0, none⟩) 1 1) [b] :=
 Kd.R_of_own (World.ownsRow_lit (base := w.heap.size) (e := 5) (size := 1) W #[.int .u8 b] 1 hw (by simp [maxLen]) (by simp)) (fun _ _ => trivial)
theorem taken_walk (q : ByteArray) (w : World) (h0 : 0 < q.size) (hs : q.size <= 140737488351232) :
 Calls Tryz.prog 125 #[.string q] w fun e w' => ∃ v : Value, e = .returned (.tuple #[v, .int .i64 ((takenS q).2.1 : Int), .bool (takenS q).2.2]) /\ Kd.R (Kd.int .u8) 5 w' w.heap.size (fun _ => True) v (takenS q).1 /\ Below w.heap.size w w' := by
 obtain ⟨U, hU⟩ : ∃ U, takenS q = U := ⟨_, rfl⟩
 have HU := Lib.hid hU
 rw [hU]
 clear hU
 have hx0 : ∀ W, (Instr.index 9 (.string q) (.int .i64 0)).run Tryz.prog W = .ok (.int .u8 (bt q 0)) W := idx_str q 0 h0
 have hb0 := bt_range q 0
 by_cases c0 : bt q 0 = 92
 · rw [c0] at hx0
   by_cases c1 : q.size < 2
   · obtain rfl : U = ([], 0, false) := by rw [<- HU.out]; unfold takenS; rw [if_neg (not_not_intro c0), if_pos c1]
     have t1 : (q.size : Int) < 2 := by omega
     clear c0 c1
     go_enter Tryz.func125, Tryz.ntmps125
     go_wp2
     exact bodyPost_ret (v := .tuple #[.slice none 0 0, .int .i64 0, .bool false]) (by simp [results, Tryz.results125, go_sem]) rfl ⟨_, rfl, Kd.R_nil _ _ _ _ _, Below.refl _ _⟩
   · have hx1 : ∀ W, (Instr.index 9 (.string q) (.int .i64 1)).run Tryz.prog W = .ok (.int .u8 (bt q 1)) W := idx_str q 1 (by omega)
     have hb1 := bt_range q 1
     have t1 : ¬ (q.size : Int) < 2 := by omega
     by_cases c2 : bt q 1 = 120
     · rw [c2] at hx1
       by_cases c3 : q.size < 4
       · obtain rfl : U = ([], 0, false) := by rw [<- HU.out]; unfold takenS; rw [if_neg (not_not_intro c0), if_neg c1, if_neg (not_not_intro c2), if_pos c3]
         have t2 : (q.size : Int) < 4 := by omega
         clear c0 c1 c2 c3
         go_enter Tryz.func125, Tryz.ntmps125
         go_wp2
         exact bodyPost_ret (v := .tuple #[.slice none 0 0, .int .i64 0, .bool false]) (by simp [results, Tryz.results125, go_sem]) rfl ⟨_, rfl, Kd.R_nil _ _ _ _ _, Below.refl _ _⟩
       · have t2 : ¬ (q.size : Int) < 4 := by omega
         have hsl := sl_both q 2 4 (by decide) (by decide) (by omega)
         have Cu := fun W => unhex_walk (q.extract 2 4) W (by rw [ByteArray.size_extract]; omega)
         have hU := HU.out
         unfold takenS at hU
         rw [if_neg (not_not_intro c0), if_neg c1, if_neg (not_not_intro c2), if_neg c3] at hU
         have e24 : q.extract (2 : Int).toNat (4 : Int).toNat = q.extract 2 4 := rfl
         rw [e24] at hsl
         generalize q.extract 2 4 = p at *
         generalize unhexS p = V at *
         obtain ⟨l, n, e⟩ := V
         simp only at hU Cu
         subst hU
         have cu := Lib.hid Cu
         clear Cu c0 c1 c2 c3
         go_enter Tryz.func125, Tryz.ntmps125
         go_wp2_with (first
          | (go_at_call 80
             refine (cu.out _).mono ?_
             rintro e1 v1 ⟨x1, rfl, hr1, hb1⟩)
          | fail)
         exact bodyPost_ret (v := .tuple #[x1, .int .i64 4, .bool (e == 0)]) (by simp [results, Tryz.results125, go_sem]) rfl ⟨_, rfl, hr1, hb1⟩
     · obtain rfl : U = ([bt q 1], 2, true) := by rw [<- HU.out]; unfold takenS; rw [if_neg (not_not_intro c0), if_neg c1, if_pos c2]
       have t2 : ((bt q 1) == 120) = false := beq_eq_false_iff_ne.2 c2
       clear c0 c1
       go_enter Tryz.func125, Tryz.ntmps125
       go_wp2
       exact bodyPost_ret (v := .tuple #[.slice (some ⟨w.heap.size, 0, none⟩) 1 1, .int .i64 2, .bool true]) (by simp [results, Tryz.results125, go_sem]) rfl ⟨_, rfl, R_lit1 w w _ (Nat.le_refl _), below_new _ _⟩
 · obtain rfl : U = ([bt q 0], 1, true) := by rw [<- HU.out]; unfold takenS; rw [if_pos c0]
   have t0 : ((bt q 0) == 92) = false := beq_eq_false_iff_ne.2 c0
   go_enter Tryz.func125, Tryz.ntmps125
   go_wp2
   exact bodyPost_ret (v := .tuple #[.slice (some ⟨w.heap.size, 0, none⟩) 1 1, .int .i64 1, .bool true]) (by simp [results, Tryz.results125, go_sem]) rfl ⟨_, rfl, R_lit1 w w _ (Nat.le_refl _), below_new _ _⟩
/-- all pieces of what stands between quotes -/
def unqL : Nat -> ByteArray -> List Int -> Option (List Int)
 | 0, _, out => some out
 | f + 1, q, out => if q.size = 0 then some out else if (takenS q).2.2 = true then unqL f (q.extract (takenS q).2.1 q.size) (out ++ (takenS q).1) else none
def unqS (q : ByteArray) : ByteArray × Int :=
 if q.size < 2 then (ByteArray.empty, 11) else match unqL q.size (q.extract 1 (q.size - 1)) [] with
  | none => (ByteArray.empty, 11)
  | some l => if quoteS (strOfNums l) = q then (strOfNums l, 0) else (ByteArray.empty, 11)
theorem taken_bd (q : ByteArray) (h0 : 0 < q.size) (h : (takenS q).2.2 = true) : 1 <= (takenS q).2.1 /\ (takenS q).2.1 <= q.size /\ (takenS q).1.length <= (takenS q).2.1 := by
 revert h
 unfold takenS
 by_cases c0 : bt q 0 ≠ 92
 · rw [if_pos c0]; intro _; simp; omega
 · rw [if_neg c0]
   by_cases c1 : q.size < 2
   · rw [if_pos c1]; intro h; cases h
   · rw [if_neg c1]
     by_cases c2 : bt q 1 ≠ 120
     · rw [if_pos c2]; intro _; simp; omega
     · rw [if_neg c2]
       by_cases c3 : q.size < 4
       · rw [if_pos c3]; intro h; cases h
       · rw [if_neg c3]
         intro _
         have := (unhexS_bytes (q.extract 2 4)).2
         rw [ByteArray.size_extract] at this
         simp only
         omega
def strLen : Value -> Nat
 | .string s => s.size
 | _ => 0
theorem unqL_end (f : Nat) (q : ByteArray) (out : List Int) (h : q.size = 0) : unqL f q out = some out := by
 cases f with
 | zero => rfl
 | succ f => rw [unqL, if_pos h]
theorem unquote_walk (q : ByteArray) (w : World) (hs : q.size <= 17592186044416) (hT : Lib.Utf8Tabs 1 2 w) :
 Calls Tryz.prog 82 #[.string q] w fun e w' => e = .returned (.tuple #[.string (unqS q).1, .int .i64 (unqS q).2]) /\ Below w.heap.size w w' := by
 obtain ⟨U, hU⟩ : ∃ U, unqS q = U := ⟨_, rfl⟩
 have HU := Lib.hid hU
 rw [hU]
 clear hU
 have HT := Lib.hid hT
 clear hT
 by_cases h2 : q.size < 2
 · obtain rfl : U = (ByteArray.empty, 11) := by rw [<- HU.out]; unfold unqS; rw [if_pos h2]
   have t1 : (q.size : Int) < 2 := by omega
   clear h2
   go_enter Tryz.func82, Tryz.ntmps82
   go_wp2
   exact bodyPost_ret (v := .tuple #[.string ByteArray.empty, .int .i64 11]) (by simp [results, Tryz.results82, go_sem]; rfl) rfl ⟨rfl, Below.refl _ _⟩
 · have t1 : ¬ (q.size : Int) < 2 := by omega
   have hsl := sl_both q 1 ((q.size : Int) - 1) (by decide) (by omega) (by omega)
   have hin : q.extract (1 : Int).toNat ((q.size : Int) - 1).toNat = q.extract 1 (q.size - 1) := by congr 1; omega
   have hsz : (q.extract 1 (q.size - 1)).size + 2 = q.size := by rw [ByteArray.size_extract]; omega
   rw [hin] at hsl
   have hU := HU.out
   unfold unqS at hU
   rw [if_neg h2] at hU
   generalize q.extract 1 (q.size - 1) = q0 at *
   have HU2 := Lib.hid hU
   clear hU hin h2
   go_enter Tryz.func82, Tryz.ntmps82
   go_wp2
   go_loopw [4, 5] (fun v4 v5 wr => ∃ (p : ByteArray) (out : List Int) (fuel : Nat), v5 = .string p /\ Zz (Kd.R (Kd.int .u8) 5 wr w.heap.size (fun _ => True) v4 out) /\ Zz (unqL fuel p out = unqL q.size q0 [] /\ p.size <= fuel) /\ out.length + p.size <= q.size /\ Zz (Below w.heap.size w wr)) (fun _ v5 _ => strLen v5)
   case atStart => exact ⟨q0, [], q.size, rfl, ⟨Kd.R_of_own (World.ownsRow_lit (base := w.heap.size) (e := 5) (size := 1) w #[] 0 (Nat.le_refl _) (by simp [maxLen]) (by simp)) (fun _ _ => trivial)⟩, ⟨rfl, by omega⟩, by simp; omega, ⟨(Below.refl _ _).alloc (Nat.le_refl _) _⟩⟩
   case round =>
    obtain ⟨p, out, fuel, rfl, hO, hR, hL, hB⟩ := hrel
    by_cases hp : p.size = 0
    · have t2 : ¬ (0 : Int) < (p.size : Int) := by omega
      have hu := hR.out.1
      rw [unqL_end _ _ _ hp] at hu
      have hU := HU2.out
      rw [<- hu] at hU
      simp only at hU
      have hcv := own_string (P := Tryz.prog) (src := 31) (dst := 9) Tryz.underlying31 Tryz.underlying5 Tryz.underlying9 (Kd.own_of_R hO.out)
      have cq := Lib.hid (fun W hT => quote_walk (strOfNums out) W (by rw [strOfNums_size]; omega) hT)
      by_cases he : quoteS (strOfNums out) = q
      · rw [if_pos he] at hU
        have CQ := cq.out
        rw [he] at CQ
        have cq := Lib.hid CQ
        subst hU
        clear hu hR CQ he HU2
        go_wp2_with (first
         | (go_at_call 94
            refine (cq.out _ (Utf8Tabs_below HT.out hB.out)).mono ?_
            rintro e1 v1 ⟨rfl, hb1⟩)
         | fail)
        exact bodyPost_ret (v := .tuple #[.string (strOfNums out), .int .i64 0]) (by simp [results, Tryz.results82, go_sem]) rfl ⟨rfl, hB.out.trans (hb1.mono hB.out.size)⟩
      · rw [if_neg he] at hU
        have te := str_ne he
        subst hU
        generalize quoteS (strOfNums out) = S at *
        clear hu hR he HU2
        go_wp2_with (first
         | (go_at_call 94
            refine (cq.out _ (Utf8Tabs_below HT.out hB.out)).mono ?_
            rintro e1 v1 ⟨rfl, hb1⟩)
         | fail)
        exact bodyPost_ret (v := .tuple #[.string ByteArray.empty, .int .i64 11]) (by simp [results, Tryz.results82, go_sem]; rfl) rfl ⟨rfl, hB.out.trans (hb1.mono hB.out.size)⟩
    · have t2 : (0 : Int) < (p.size : Int) := by omega
      have h0 : 0 < p.size := by omega
      obtain ⟨fuel, rfl⟩ : ∃ k, fuel = k + 1 := ⟨fuel - 1, by have := hR.out.2; omega⟩
      have hu := hR.out.1
      rw [unqL, if_neg hp] at hu
      have Ct := fun W => taken_walk p W h0 (by omega)
      have hbd := taken_bd p h0
      have hf := hR.out.2
      by_cases hok : (takenS p).2.2 = true
      · rw [if_pos hok] at hu
        obtain ⟨b1, b2, b3⟩ := hbd hok
        rw [hok] at Ct
        have hsl2 := sl_from p ((takenS p).2.1 : Int) (by omega) (by omega)
        rw [Int.toNat_natCast] at hsl2
        have hsz2 : (p.extract (takenS p).2.1 p.size).size = p.size - (takenS p).2.1 := by rw [ByteArray.size_extract]; omega
        generalize p.extract (takenS p).2.1 p.size = p2 at *
        generalize (takenS p).2.1 = n at *
        generalize (takenS p).1 = l at *
        have ct := Lib.hid Ct
        have HU3 := Zz.mk (show unqL fuel p2 (out ++ l) = unqL q.size q0 [] /\ p2.size <= fuel from ⟨hu, by omega⟩)
        have HM := Zz.mk (show p2.size < p.size by omega)
        have HL := Zz.mk (show (out ++ l).length + p2.size <= q.size by rw [List.length_append]; omega)
        clear hu hR hbd hok Ct hsz2
        go_wp2_with (first
         | (go_at_call 125
            refine (ct.out _).mono ?_
            rintro e1 v1 ⟨x1, rfl, hr1, hb1⟩
            obtain ⟨A1, c1, rfl, hl1, hC1⟩ := Kd.R_reads hr1
            have HC1 := Zz.mk hC1
            have HB1 := Zz.mk (hB.out.trans (hb1.mono hB.out.size))
            have HO1 := Zz.mk (Kd.R_below hO.out hb1)
            clear hr1 hC1 hb1)
         | ((with_reducible refine gate_builtin (b := .append) (xs := #[.tmp 30, .tmp 31]) rfl ?_)
            at_builtin
            refine Kd.R_append_rows (Kd.int .u8) (w0 := w) w.heap.size rfl (.tmp 30) (.tmp 31) 31 5 (.int .u8 0) 1 rfl Tryz.underlying31 info_u8 rfl (by decide) (by omega) u4 out l _ _ _ (fun _ => True) (fun _ => False) rfl rfl HO1.out HC1.out (fun _ _ h => h) (fun _ h => h.elim) (fun _ _ => trivial) HB1.out HB1.out.size (by omega) ?_
            intro v2 w2 ho hb hg hat
            have HB2 := Zz.mk hb
            have HO2 := Zz.mk ho
            clear ho hb hg hat)
         | fail)
        go_roundw
        case rel => exact ⟨p2, out ++ l, fuel, rfl, HO2, HU3, HL.out, HB2⟩
        case measure => exact HM.out
      · have hof : (takenS p).2.2 = false := by simpa using hok
        rw [if_neg hok] at hu
        have hU := HU2.out
        rw [<- hu] at hU
        simp only at hU
        subst hU
        rw [hof] at Ct
        have ct := Lib.hid Ct
        generalize (takenS p).2.1 = n at *
        generalize (takenS p).1 = l at *
        clear hu hR hbd hok hof Ct HU2
        go_wp2_with (first
         | (go_at_call 125
            refine (ct.out _).mono ?_
            rintro e1 v1 ⟨x1, rfl, hr1, hb1⟩)
         | fail)
        exact bodyPost_ret (v := .tuple #[.string ByteArray.empty, .int .i64 11]) (by simp [results, Tryz.results82, go_sem]; rfl) rfl ⟨rfl, hB.out.trans (hb1.mono hB.out.size)⟩
theorem extract_list (s : ByteArray) (i j : Nat) : (s.extract i j).data.toList = (s.data.toList.take j).drop i := by
 rw [ByteArray.data_extract, Array.toList_extract, List.extract_eq_take_drop, List.drop_take]
theorem extract_nums (l : List Int) (i j : Nat) : (strOfNums l).extract i j = strOfNums ((l.take j).drop i) := by
 apply ByteArray.ext
 rw [<- Array.toList_inj, extract_list, strOfNums_data, strOfNums_data, List.map_drop, List.map_take]
theorem bt_list (s : ByteArray) (i : Nat) (h : i < s.size) : bt s i = ((s.data.toList.getD i 0).toNat : Int) := by
 have h' : i < s.data.size := h
 unfold bt
 rw [dif_pos (show (i : Int).toNat < s.size by simpa using h)]
 simp [List.getD_eq_getElem?_getD]
 rw [Array.getElem?_eq_getElem h']
 rfl
theorem bt_nums (l : List Int) (i : Nat) (h : i < l.length) (hb : 0 <= l.getD i 0 /\ l.getD i 0 <= 255) : bt (strOfNums l) i = l.getD i 0 := by
 rw [bt_list _ _ (by rw [strOfNums_size]; exact h), strOfNums_data]
 simp [List.getD_eq_getElem?_getD, h] at hb ⊢
 omega
theorem unqL_plain (b : Int) (t out : List Int) (F : Nat) (hF : (b :: t).length <= F) (hb : 0 <= b /\ b <= 255) (hne : b ≠ 92) : ∃ F', t.length <= F' /\ unqL F (strOfNums (b :: t)) out = unqL F' (strOfNums t) (out ++ [b]) := by
 obtain ⟨F', rfl⟩ : ∃ k, F = k + 1 := ⟨F - 1, by simp at hF; omega⟩
 refine ⟨F', by simpa using hF, ?_⟩
 have h0 : bt (strOfNums (b :: t)) 0 = b := bt_nums (b :: t) 0 (by simp) hb
 have ht : takenS (strOfNums (b :: t)) = ([b], 1, true) := by unfold takenS; rw [if_pos (by rw [h0]; exact hne), h0]
 rw [unqL, if_neg (by rw [strOfNums_size]; simp), ht]
 simp only [if_true]
 rw [extract_nums, strOfNums_size, List.take_of_length_le (Nat.le_refl _)]
 rfl
theorem unqL_plains : ∀ (p t out : List Int) (F : Nat), (p ++ t).length <= F -> (∀ b ∈ p, (0 <= b /\ b <= 255) /\ b ≠ 92) -> ∃ F', t.length <= F' /\ unqL F (strOfNums (p ++ t)) out = unqL F' (strOfNums t) (out ++ p)
 | [], t, out, F, hF, _ => ⟨F, hF, by simp⟩
 | b :: p, t, out, F, hF, h => by
   obtain ⟨F1, h1, e1⟩ := unqL_plain b (p ++ t) out F hF (h b (by simp)).1 (h b (by simp)).2
   obtain ⟨F2, h2, e2⟩ := unqL_plains p t (out ++ [b]) F1 h1 (fun x hx => h x (by simp [hx]))
   exact ⟨F2, h2, by rw [List.cons_append, e1, e2]; simp⟩
theorem unqL_two (b : Int) (t out : List Int) (F : Nat) (hF : (92 :: b :: t).length <= F) (hb : 0 <= b /\ b <= 255) (hne : b ≠ 120) : ∃ F', t.length <= F' /\ unqL F (strOfNums (92 :: b :: t)) out = unqL F' (strOfNums t) (out ++ [b]) := by
 obtain ⟨F', rfl⟩ : ∃ k, F = k + 1 := ⟨F - 1, by simp at hF; omega⟩
 refine ⟨F', by simp at hF; omega, ?_⟩
 have h0 : bt (strOfNums (92 :: b :: t)) 0 = 92 := bt_nums (92 :: b :: t) 0 (by simp) (by simp)
 have h1 : bt (strOfNums (92 :: b :: t)) 1 = b := bt_nums (92 :: b :: t) 1 (by simp) (by simpa using hb)
 have hz : (strOfNums (92 :: b :: t)).size = t.length + 2 := by rw [strOfNums_size]; rfl
 have ht : takenS (strOfNums (92 :: b :: t)) = ([b], 2, true) := by unfold takenS; rw [if_neg (by rw [h0]; simp), if_neg (by omega), if_pos (by rw [h1]; exact hne), h1]
 rw [unqL, if_neg (by omega), ht]
 simp only [if_true]
 rw [extract_nums, strOfNums_size, List.take_of_length_le (Nat.le_refl _)]
 rfl
theorem unqL_hex (b : Int) (t out : List Int) (F : Nat) (hF : (92 :: 120 :: hexd (b / 16) :: hexd (b % 16) :: t).length <= F) (hb : 0 <= b /\ b <= 255) : ∃ F', t.length <= F' /\ unqL F (strOfNums (92 :: 120 :: hexd (b / 16) :: hexd (b % 16) :: t)) out = unqL F' (strOfNums t) (out ++ [b]) := by
 obtain ⟨F', rfl⟩ : ∃ k, F = k + 1 := ⟨F - 1, by simp at hF; omega⟩
 refine ⟨F', by simp at hF; omega, ?_⟩
 have hu : unhexS (strOfNums [hexd (b / 16), hexd (b % 16)]) = ([b], 2, 0) := unhex_hex [b] (fun x hx => by simp at hx; omega)
 generalize hexd (b / 16) = x at *
 generalize hexd (b % 16) = y at *
 have h0 : bt (strOfNums (92 :: 120 :: x :: y :: t)) 0 = 92 := bt_nums (92 :: 120 :: x :: y :: t) 0 (by simp) (by simp)
 have h1 : bt (strOfNums (92 :: 120 :: x :: y :: t)) 1 = 120 := bt_nums (92 :: 120 :: x :: y :: t) 1 (by simp) (by simp)
 have hz : (strOfNums (92 :: 120 :: x :: y :: t)).size = t.length + 4 := by rw [strOfNums_size]; rfl
 have hx : (strOfNums (92 :: 120 :: x :: y :: t)).extract 2 4 = strOfNums [x, y] := by rw [extract_nums]; rfl
 have ht : takenS (strOfNums (92 :: 120 :: x :: y :: t)) = ([b], 4, true) := by
  unfold takenS
  rw [if_neg (by rw [h0]; simp), if_neg (by omega), if_neg (by rw [h1]; simp), if_neg (by omega), hx, hu]
  rfl
 rw [unqL, if_neg (by omega), ht]
 simp only [if_true]
 rw [extract_nums, strOfNums_size, List.take_of_length_le (Nat.le_refl _)]
 rfl
theorem bytes_ext1 (s : ByteArray) (pos : Nat) (h : pos < s.size) : bytesOf (s.extract pos (pos + 1)) = [bt s pos] := by
 unfold bytesOf
 have hl : pos < s.data.toList.length := by rw [size_data]; exact h
 rw [extract_list, bt_list s pos h, List.drop_take, show pos + 1 - pos = 1 by omega, List.drop_eq_getElem_cons hl]
 simp only [List.take_succ_cons, List.take_zero, List.map_cons, List.map_nil, List.getD_eq_getElem?_getD, List.getElem?_eq_getElem hl]
 rfl
theorem bytes_rune (s : ByteArray) (pos : Nat) (h : pos < s.size) (hv : ¬ ((Utf8.decode s pos).1 = 65533 /\ (Utf8.decode s pos).2 = 1)) (h92 : (Utf8.decode s pos).1 ≠ 92) : ∀ b ∈ bytesOf (s.extract pos (pos + (Utf8.decode s pos).2)), (0 <= b /\ b <= 255) /\ b ≠ 92 := by
 have hne : s.data.toList.drop pos ≠ [] := by
  intro h0
  have := congrArg List.length h0
  simp only [List.length_drop, Array.length_toList, List.length_nil] at this
  have : s.data.size = s.size := rfl
  omega
 have e := Lib.encode_decode (s.data.toList.drop pos) hne (by rw [Lib.decodeL_drop]; exact hv)
 rw [Lib.decodeL_drop] at e
 intro b hb
 unfold bytesOf at hb
 rw [extract_list, List.drop_take, show pos + (Utf8.decode s pos).2 - pos = (Utf8.decode s pos).2 by omega, <- e] at hb
 unfold Lib.encodeRune at hb
 rw [List.map_map, List.mem_map] at hb
 obtain ⟨x, hx, rfl⟩ := hb
 have hxb := Lib.encodeRuneZ_byte _ x hx
 have hx92 : x ≠ 92 := by
  generalize (Utf8.decode s pos).1 = r at *
  unfold Lib.encodeRuneZ at hx
  repeat' split at hx
  all_goals simp at hx; omega
 simp
 omega
theorem unqL_quote (s : ByteArray) : ∀ (f pos F : Nat) (out : List Int), s.size <= pos + f -> (quoteF s (rns s f pos)).length <= F -> unqL F (strOfNums (quoteF s (rns s f pos))) out = some (out ++ bytesOf (s.extract pos s.size))
 | f, pos, F, out, hf, hF => by
   by_cases h : pos < s.size
   · have hw := Lib.decode_width_pos s pos h
     have hwl := width_le' s pos h
     obtain ⟨f', rfl⟩ : ∃ f', f = f' + 1 := ⟨f - 1, by omega⟩
     have he : quoteF s (rns s (f' + 1) pos) = quoteP s (pos, (Utf8.decode s pos).1, (Utf8.decode s pos).2) ++ quoteF s (rns s f' (pos + (Utf8.decode s pos).2)) := by
      simp only [rns, if_pos h]
      rfl
     rw [he] at hF ⊢
     have key : ∃ F', (quoteF s (rns s f' (pos + (Utf8.decode s pos).2))).length <= F' /\ unqL F (strOfNums (quoteP s (pos, (Utf8.decode s pos).1, (Utf8.decode s pos).2) ++ quoteF s (rns s f' (pos + (Utf8.decode s pos).2)))) out = unqL F' (strOfNums (quoteF s (rns s f' (pos + (Utf8.decode s pos).2)))) (out ++ bytesOf (s.extract pos (pos + (Utf8.decode s pos).2))) := by
      have hbt := bt_range s pos
      have low : (Utf8.decode s pos).1 < 128 -> (Utf8.decode s pos).2 = 1 /\ bt s pos = ((Utf8.decode s pos).1 : Int) := fun hl => by
       have := decode_low' s pos h hl
       rw [this, bt_list s pos h]
       exact ⟨rfl, rfl⟩
      by_cases c1 : (Utf8.decode s pos).1 = 34 \/ (Utf8.decode s pos).1 = 92
      · have hP : quoteP s (pos, (Utf8.decode s pos).1, (Utf8.decode s pos).2) = [92, ((Utf8.decode s pos).1 : Int)] := by unfold quoteP; rw [if_pos c1]
        obtain ⟨l1, l2⟩ := low (by omega)
        rw [hP] at hF ⊢
        rw [l1, bytes_ext1 s pos h, l2]
        rw [l1] at hF
        exact unqL_two _ _ _ _ hF (by omega) (by omega)
      · by_cases c2 : (Utf8.decode s pos).1 < 32 \/ (Utf8.decode s pos).1 = 127 \/ ((Utf8.decode s pos).1 = 65533 /\ (Utf8.decode s pos).2 = 1)
        · have hP : quoteP s (pos, (Utf8.decode s pos).1, (Utf8.decode s pos).2) = [92, 120, hexd (bt s pos / 16), hexd (bt s pos % 16)] := by unfold quoteP; rw [if_neg c1, if_pos c2]
          have l1 : (Utf8.decode s pos).2 = 1 := by
           rcases c2 with c | c | c
           · exact (low (by omega)).1
           · exact (low (by omega)).1
           · exact c.2
          rw [hP] at hF ⊢
          rw [l1, bytes_ext1 s pos h]
          rw [l1] at hF
          exact unqL_hex _ _ _ _ hF hbt
        · have hP : quoteP s (pos, (Utf8.decode s pos).1, (Utf8.decode s pos).2) = bytesOf (s.extract pos (pos + (Utf8.decode s pos).2)) := by unfold quoteP; rw [if_neg c1, if_neg c2]
          rw [hP] at hF ⊢
          exact unqL_plains _ _ _ _ hF (bytes_rune s pos h (by omega) (by omega))
     obtain ⟨F', h1, h2⟩ := key
     rw [h2, unqL_quote s f' (pos + (Utf8.decode s pos).2) F' _ (by omega) h1, List.append_assoc, <- bytesOf_append, extract_split s _ _ (by omega) hwl]
   · rw [rns_end s f pos h]
     have : (s.extract pos s.size).size = 0 := by rw [ByteArray.size_extract]; omega
     rw [show quoteF s [] = [] from rfl, unqL_end _ _ _ (by rw [strOfNums_size]; rfl)]
     have e : bytesOf (s.extract pos s.size) = [] := by
      apply List.length_eq_zero_iff.1
      rw [bytesOf_length]
      exact this
     rw [e]
     simp
theorem unq_quote (s : ByteArray) : unqS (quoteS s) = (s, 0) := by
 have hz : (quoteS s).size = (quoteF s (runesOf s)).length + 2 := by unfold quoteS; rw [strOfNums_size]; simp
 have hx : (quoteS s).extract 1 ((quoteS s).size - 1) = strOfNums (quoteF s (runesOf s)) := by
  rw [hz]
  unfold quoteS
  rw [extract_nums]
  congr 1
  rw [show (quoteF s (runesOf s)).length + 2 - 1 = (quoteF s (runesOf s)).length + 1 by omega]
  simp
 unfold unqS
 rw [if_neg (by omega), hx]
 have := unqL_quote s s.size 0 (quoteS s).size [] (by omega) (by rw [hz]; exact Nat.le_add_right _ _)
 unfold runesOf
 rw [this]
 simp only [List.nil_append]
 rw [show s.extract 0 s.size = s by simp, strOfNums_bytesOf, if_pos rfl]
def rowTab : List (ByteArray × ByteArray) := [(⟨#[]⟩, ⟨#[]⟩), (⟨#[101, 110, 114, 111, 108]⟩, ⟨#[100, 119]⟩), (⟨#[103, 101, 110, 107, 101, 121]⟩, ⟨#[100, 115]⟩), (⟨#[115, 105, 103, 110]⟩, ⟨#[100, 107, 109]⟩), (⟨#[116, 114, 97, 110, 115, 102, 101, 114]⟩, ⟨#[100, 107, 116, 114]⟩), (⟨#[115, 112, 108, 105, 116]⟩, ⟨#[100, 107, 116, 98]⟩), (⟨#[97, 98, 111, 114, 116]⟩, ⟨#[100, 105]⟩), (⟨#[100, 101, 115, 116, 114, 111, 121]⟩, ⟨#[100, 105]⟩), (⟨#[114, 101, 115, 117, 109, 101]⟩, ⟨#[100, 105]⟩), (⟨#[114, 101, 116, 105, 114, 101]⟩, ⟨#[100, 107]⟩), (⟨#[99, 104, 101, 99, 107]⟩, ⟨#[100]⟩), (⟨#[100, 101, 108, 105, 118, 101, 114]⟩, ⟨#[110]⟩), (⟨#[100, 114, 111, 112]⟩, ⟨#[110]⟩), (⟨#[100, 111, 117, 98, 108, 101]⟩, ⟨#[110]⟩), (⟨#[105, 110, 106, 101, 99, 116]⟩, ⟨#[100, 120]⟩), (⟨#[102, 117, 115, 101]⟩, ⟨#[100, 110]⟩), (⟨#[99, 114, 97, 115, 104]⟩, ⟨#[100, 112]⟩), (⟨#[98, 111, 111, 116]⟩, ⟨#[100, 119]⟩)]
def rowC : Array Value := #[.string ⟨#[]⟩, .string ⟨#[]⟩, .string ⟨#[101, 110, 114, 111, 108]⟩, .string ⟨#[100, 119]⟩, .string ⟨#[103, 101, 110, 107, 101, 121]⟩, .string ⟨#[100, 115]⟩, .string ⟨#[115, 105, 103, 110]⟩, .string ⟨#[100, 107, 109]⟩, .string ⟨#[116, 114, 97, 110, 115, 102, 101, 114]⟩, .string ⟨#[100, 107, 116, 114]⟩, .string ⟨#[115, 112, 108, 105, 116]⟩, .string ⟨#[100, 107, 116, 98]⟩, .string ⟨#[97, 98, 111, 114, 116]⟩, .string ⟨#[100, 105]⟩, .string ⟨#[100, 101, 115, 116, 114, 111, 121]⟩, .string ⟨#[100, 105]⟩, .string ⟨#[114, 101, 115, 117, 109, 101]⟩, .string ⟨#[100, 105]⟩, .string ⟨#[114, 101, 116, 105, 114, 101]⟩, .string ⟨#[100, 107]⟩, .string ⟨#[99, 104, 101, 99, 107]⟩, .string ⟨#[100]⟩, .string ⟨#[100, 101, 108, 105, 118, 101, 114]⟩, .string ⟨#[110]⟩, .string ⟨#[100, 114, 111, 112]⟩, .string ⟨#[110]⟩, .string ⟨#[100, 111, 117, 98, 108, 101]⟩, .string ⟨#[110]⟩, .string ⟨#[105, 110, 106, 101, 99, 116]⟩, .string ⟨#[100, 120]⟩, .string ⟨#[102, 117, 115, 101]⟩, .string ⟨#[100, 110]⟩, .string ⟨#[99, 114, 97, 115, 104]⟩, .string ⟨#[100, 112]⟩, .string ⟨#[98, 111, 111, 116]⟩, .string ⟨#[100, 119]⟩]
theorem krow {W v : World} {b : Nat} {o : Obj} (h : W.heap[b]? = some o) (hb : Below W.heap.size W v) : v.heap[b]? = some o := (hb.block b (Array.getElem?_eq_some_iff.1 h).1).trans h
theorem knew {W : World} {b : Nat} {o o' : Obj} (h : W.heap[b]? = some o) : (W.alloc o').heap[b]? = some o := (Below.heap_alloc W o' b (Array.getElem?_eq_some_iff.1 h).1).trans h
theorem results_cell {fn : Func} {a : Tmp} {t : TypeId} (h : fn.results = #[.cell a t]) (tmps : Array Value) (P : Program) (w : World) (g : Nat) (hp : tmps.getD a undef = .pointer (some ⟨g, 0, none⟩)) (v : Value) (hl : (loadVar t ⟨g, 0, none⟩).run P w = .ok v w) : (results fn tmps).run P w = .ok v w := by
 rw [Array.getD_eq_getD_getElem?] at hp
 simp [results, h, hp, hl, asAddr]
theorem rowC_info : (Tryz.prog.info? 60).map (·.size) = some rowC.size := by kernel_rfl
theorem rowC_one : rowC.all (·.oneCell') = true := by decide +kernel
theorem rows_store (w : World) (c : Array Value) (h : c.size = rowC.size) : (storeCells ⟨w.heap.size, 0, none⟩ rowC.toList).run Tryz.prog (w.alloc (.cells c 60)) = .ok () (w.alloc (.cells rowC 60)) :=
 run_storeCells_new (P := Tryz.prog) w 60 c rowC rowC_info h rowC_one
theorem c_rows (w : World) : Calls Tryz.prog 33 #[] w fun e w' => e = .returned (.agg rowC) /\ Below w.heap.size w w' := by
 have hst := fun w => rows_store w #[.string ⟨#[]⟩, .string ⟨#[]⟩, .string ⟨#[]⟩, .string ⟨#[]⟩, .string ⟨#[]⟩, .string ⟨#[]⟩, .string ⟨#[]⟩, .string ⟨#[]⟩, .string ⟨#[]⟩, .string ⟨#[]⟩, .string ⟨#[]⟩, .string ⟨#[]⟩, .string ⟨#[]⟩, .string ⟨#[]⟩, .string ⟨#[]⟩, .string ⟨#[]⟩, .string ⟨#[]⟩, .string ⟨#[]⟩, .string ⟨#[]⟩, .string ⟨#[]⟩, .string ⟨#[]⟩, .string ⟨#[]⟩, .string ⟨#[]⟩, .string ⟨#[]⟩, .string ⟨#[]⟩, .string ⟨#[]⟩, .string ⟨#[]⟩, .string ⟨#[]⟩, .string ⟨#[]⟩, .string ⟨#[]⟩, .string ⟨#[]⟩, .string ⟨#[]⟩, .string ⟨#[]⟩, .string ⟨#[]⟩, .string ⟨#[]⟩, .string ⟨#[]⟩] rfl
 go_enter Tryz.func33, Tryz.ntmps33
 go_wp2_with (first
  | ((with_reducible refine gate_dst (N := 19) rfl ?_)
     refine wpList_buildTo rfl 60 _ rfl (some 19) rfl rowC (by as_aux_lemma => kernel_rfl) ?_)
  | fail)
 exact bodyPost_ret (v := .agg rowC) (results_cell Tryz.results33 _ _ _ w.heap.size rfl _ (run_loadVar_new w 60 rowC 18 59 Tryz.underlying60 rowC_info)) rfl ⟨rfl, below_new _ _⟩
def rowOf (d : Int) : ByteArray × ByteArray := if 0 <= d /\ d < 18 then rowTab.getD d.toNat (⟨#[]⟩, ⟨#[]⟩) else (⟨#[]⟩, ⟨#[]⟩)
theorem rowC_at (i : Nat) (h : i < 18) : rowC[i * 2]? = some (.string (rowTab.getD i (⟨#[]⟩, ⟨#[]⟩)).1) /\ rowC[i * 2 + 1]? = some (.string (rowTab.getD i (⟨#[]⟩, ⟨#[]⟩)).2) := by
 obtain rfl | rfl | rfl | rfl | rfl | rfl | rfl | rfl | rfl | rfl | rfl | rfl | rfl | rfl | rfl | rfl | rfl | rfl : i = 0 \/ i = 1 \/ i = 2 \/ i = 3 \/ i = 4 \/ i = 5 \/ i = 6 \/ i = 7 \/ i = 8 \/ i = 9 \/ i = 10 \/ i = 11 \/ i = 12 \/ i = 13 \/ i = 14 \/ i = 15 \/ i = 16 \/ i = 17 := by omega
 all_goals exact ⟨rfl, rfl⟩
theorem c_at (d : Int) (w : World) : Calls Tryz.prog 77 #[.int .i64 d] w fun e w' => e = .returned (.agg #[.string (rowOf d).1, .string (rowOf d).2]) /\ Below w.heap.size w w' := by
 have hst := fun w => rows_store w #[.string ⟨#[]⟩, .string ⟨#[]⟩, .string ⟨#[]⟩, .string ⟨#[]⟩, .string ⟨#[]⟩, .string ⟨#[]⟩, .string ⟨#[]⟩, .string ⟨#[]⟩, .string ⟨#[]⟩, .string ⟨#[]⟩, .string ⟨#[]⟩, .string ⟨#[]⟩, .string ⟨#[]⟩, .string ⟨#[]⟩, .string ⟨#[]⟩, .string ⟨#[]⟩, .string ⟨#[]⟩, .string ⟨#[]⟩, .string ⟨#[]⟩, .string ⟨#[]⟩, .string ⟨#[]⟩, .string ⟨#[]⟩, .string ⟨#[]⟩, .string ⟨#[]⟩, .string ⟨#[]⟩, .string ⟨#[]⟩, .string ⟨#[]⟩, .string ⟨#[]⟩, .string ⟨#[]⟩, .string ⟨#[]⟩, .string ⟨#[]⟩, .string ⟨#[]⟩, .string ⟨#[]⟩, .string ⟨#[]⟩, .string ⟨#[]⟩, .string ⟨#[]⟩] rfl
 have cr := Lib.hid c_rows
 by_cases hd : 0 <= d /\ d < 18
 · obtain ⟨x1, x2⟩ := rowC_at d.toNat (by omega)
   rw [show rowOf d = rowTab.getD d.toNat (⟨#[]⟩, ⟨#[]⟩) by unfold rowOf; rw [if_pos hd]]
   generalize rowTab.getD d.toNat (⟨#[]⟩, ⟨#[]⟩) = xy at *
   obtain ⟨x, y⟩ := xy
   simp only at x1 x2
   have h1 := hd.1
   have h2 := hd.2
   have t1 : decide (d < 0) = false := decide_eq_false (by omega)
   have t2 : decide (18 <= d) = false := decide_eq_false (by omega)
   clear hd
   go_enter Tryz.func77, Tryz.ntmps77
   go_wp2_with (first
    | (go_at_call 33
       refine (cr.out _).mono ?_
       rintro e v ⟨rfl, hb⟩
       have HR := Zz.mk (krow (heap_alloc_new w (.cells #[.string ⟨#[]⟩, .string ⟨#[]⟩] 59)) hb)
       have HR2 := Zz.mk (knew (o' := .cells rowC 60) HR.out)
       have HR3 := Zz.mk (blk_set HR2.out 0 (.string x))
       have HR4 := Zz.mk (blk_set HR3.out 1 (.string y))
       have ca : (v.alloc (.cells rowC 60)).cell? ⟨w.heap.size, 0, none⟩ = some (.string ⟨#[]⟩) := blk_cell HR2.out 0
       have fa : (v.alloc (.cells rowC 60)).frozen? ⟨w.heap.size, 0, none⟩ = false := blk_free HR2.out 0
       have cb : ((v.alloc (.cells rowC 60)).setCell ⟨w.heap.size, 0, none⟩ (.string x)).cell? ⟨w.heap.size, 1, none⟩ = some (.string ⟨#[]⟩) := blk_cell HR3.out 1
       have fb : ((v.alloc (.cells rowC 60)).setCell ⟨w.heap.size, 0, none⟩ (.string x)).frozen? ⟨w.heap.size, 1, none⟩ = false := blk_free HR3.out 1
       have HBv := Zz.mk (((((Below.refl w.heap.size w).alloc (Nat.le_refl _) (.cells #[.string ⟨#[]⟩, .string ⟨#[]⟩] 59)).trans (hb.mono (by simp))).alloc (by have := hb.size; simp at this; omega) (.cells rowC 60)))
       clear hb)
    | fail)
   exact bodyPost_ret (v := .agg #[.string x, .string y]) (results_cell Tryz.results77 _ _ _ w.heap.size rfl _ (run_loadVar_row _ w.heap.size 59 59 _ (0, 0) _ HR4.out Tryz.underlying59 rfl (by kernel_rfl))) rfl ⟨rfl, (HBv.out.setCell (Nat.le_refl _) _).setCell (Nat.le_refl _) _⟩
 · rw [show rowOf d = (⟨#[]⟩, ⟨#[]⟩) by unfold rowOf; rw [if_neg hd]]
   by_cases h1 : d < 0
   · have t1 : decide (d < 0) = true := decide_eq_true h1
     clear hd h1
     go_enter Tryz.func77, Tryz.ntmps77
     go_wp2_with (first
      | (go_at_call 33
         refine (cr.out _).mono ?_
         rintro e v ⟨rfl, hb⟩
         have HR := Zz.mk (krow (heap_alloc_new w (.cells #[.string ⟨#[]⟩, .string ⟨#[]⟩] 59)) hb)
         have HR2 := Zz.mk (knew (o' := .cells rowC 60) HR.out)
         have HR3 := Zz.mk (blk_set HR2.out 0 (.string ⟨#[]⟩))
         have HR4 := Zz.mk (blk_set HR3.out 1 (.string ⟨#[]⟩))
         have ca : (v.alloc (.cells rowC 60)).cell? ⟨w.heap.size, 0, none⟩ = some (.string ⟨#[]⟩) := blk_cell HR2.out 0
         have fa : (v.alloc (.cells rowC 60)).frozen? ⟨w.heap.size, 0, none⟩ = false := blk_free HR2.out 0
         have cb : ((v.alloc (.cells rowC 60)).setCell ⟨w.heap.size, 0, none⟩ (.string ⟨#[]⟩)).cell? ⟨w.heap.size, 1, none⟩ = some (.string ⟨#[]⟩) := blk_cell HR3.out 1
         have fb : ((v.alloc (.cells rowC 60)).setCell ⟨w.heap.size, 0, none⟩ (.string ⟨#[]⟩)).frozen? ⟨w.heap.size, 1, none⟩ = false := blk_free HR3.out 1
         have HBv := Zz.mk (((((Below.refl w.heap.size w).alloc (Nat.le_refl _) (.cells #[.string ⟨#[]⟩, .string ⟨#[]⟩] 59)).trans (hb.mono (by simp))).alloc (by have := hb.size; simp at this; omega) (.cells rowC 60)))
         clear hb)
      | fail)
     exact bodyPost_ret (v := .agg #[.string ⟨#[]⟩, .string ⟨#[]⟩]) (results_cell Tryz.results77 _ _ _ w.heap.size rfl _ (run_loadVar_row _ w.heap.size 59 59 _ (0, 0) _ HR4.out Tryz.underlying59 rfl (by kernel_rfl))) rfl ⟨rfl, (HBv.out.setCell (Nat.le_refl _) _).setCell (Nat.le_refl _) _⟩
   · have t1 : decide (d < 0) = false := decide_eq_false h1
     have t2 : decide (18 <= d) = true := decide_eq_true (by omega)
     clear hd h1
     go_enter Tryz.func77, Tryz.ntmps77
     go_wp2_with (first
      | (go_at_call 33
         refine (cr.out _).mono ?_
         rintro e v ⟨rfl, hb⟩
         have HR := Zz.mk (krow (heap_alloc_new w (.cells #[.string ⟨#[]⟩, .string ⟨#[]⟩] 59)) hb)
         have HR2 := Zz.mk (knew (o' := .cells rowC 60) HR.out)
         have HR3 := Zz.mk (blk_set HR2.out 0 (.string ⟨#[]⟩))
         have HR4 := Zz.mk (blk_set HR3.out 1 (.string ⟨#[]⟩))
         have ca : (v.alloc (.cells rowC 60)).cell? ⟨w.heap.size, 0, none⟩ = some (.string ⟨#[]⟩) := blk_cell HR2.out 0
         have fa : (v.alloc (.cells rowC 60)).frozen? ⟨w.heap.size, 0, none⟩ = false := blk_free HR2.out 0
         have cb : ((v.alloc (.cells rowC 60)).setCell ⟨w.heap.size, 0, none⟩ (.string ⟨#[]⟩)).cell? ⟨w.heap.size, 1, none⟩ = some (.string ⟨#[]⟩) := blk_cell HR3.out 1
         have fb : ((v.alloc (.cells rowC 60)).setCell ⟨w.heap.size, 0, none⟩ (.string ⟨#[]⟩)).frozen? ⟨w.heap.size, 1, none⟩ = false := blk_free HR3.out 1
         have HBv := Zz.mk (((((Below.refl w.heap.size w).alloc (Nat.le_refl _) (.cells #[.string ⟨#[]⟩, .string ⟨#[]⟩] 59)).trans (hb.mono (by simp))).alloc (by have := hb.size; simp at this; omega) (.cells rowC 60)))
         clear hb)
      | fail)
     exact bodyPost_ret (v := .agg #[.string ⟨#[]⟩, .string ⟨#[]⟩]) (results_cell Tryz.results77 _ _ _ w.heap.size rfl _ (run_loadVar_row _ w.heap.size 59 59 _ (0, 0) _ HR4.out Tryz.underlying59 rfl (by kernel_rfl))) rfl ⟨rfl, (HBv.out.setCell (Nat.le_refl _) _).setCell (Nat.le_refl _) _⟩
theorem fld0 (a b : ByteArray) (W : World) : (Instr.field 59 (.agg #[.string a, .string b]) 0).run Tryz.prog W = .ok (.string a) W := by kernel_rfl
theorem fld1 (a b : ByteArray) (W : World) : (Instr.field 59 (.agg #[.string a, .string b]) 1).run Tryz.prog W = .ok (.string b) W := by kernel_rfl
theorem c_Has (d : Int) (w : World) : Calls Tryz.prog 36 #[.int .i64 d] w fun e w' => e = .returned (.string (rowOf d).2) /\ Below w.heap.size w w' := by
 have ca := Lib.hid (c_at d)
 generalize rowOf d = xy at *
 have q0 := fld0 xy.1 xy.2
 have q1 := fld1 xy.1 xy.2
 go_enter Tryz.func36, Tryz.ntmps36
 go_wp2_with (first | (go_at_call 77; refine (ca.out _).mono ?_; rintro e v ⟨rfl, hb⟩) | fail)
 go_ret
 exact ⟨rfl, hb⟩
theorem c_SName (d : Int) (w : World) : Calls Tryz.prog 63 #[.int .i64 d] w fun e w' => e = .returned (.string (rowOf d).1) /\ Below w.heap.size w w' := by
 have ca := Lib.hid (c_at d)
 generalize rowOf d = xy at *
 have q0 := fld0 xy.1 xy.2
 have q1 := fld1 xy.1 xy.2
 go_enter Tryz.func63, Tryz.ntmps63
 go_wp2_with (first | (go_at_call 77; refine (ca.out _).mono ?_; rintro e v ⟨rfl, hb⟩) | fail)
 go_ret
 exact ⟨rfl, hb⟩
/-- has an act a letter -/
def hasS (d : Int) (c : UInt8) : Bool := decide (0 <= Lib.indexByte (rowOf d).2.data.toList c)
theorem c_has (d : Int) (c : UInt8) (w : World) : Calls Tryz.prog 103 #[.int .i64 d, .string ⟨#[c]⟩] w fun e w' => e = .returned (.bool (hasS d c)) /\ Below w.heap.size w w' := by
 have ca := Lib.hid (c_Has d)
 have cc := Lib.hid (fun W => Tryz.strings_Contains_one (rowOf d).2 c W)
 unfold hasS
 generalize (rowOf d).2 = s at *
 go_enter Tryz.func103, Tryz.ntmps103
 go_wp2_with (first
  | (go_at_call 36; refine (ca.out _).mono ?_; rintro e v ⟨rfl, hb⟩)
  | (go_at_call 133; refine (cc.out _).mono ?_; rintro e v ⟨rfl, rfl⟩)
  | fail)
 go_ret
 exact ⟨rfl, hb⟩
def octet_Label.f (a0 : ByteArray) : Option Bool := if a0.size <= 140737488351232 then some (labelS a0) else none
theorem octet_Label.calls (a0 : ByteArray) (r : Bool) (w : World) (h : octet_Label.f a0 = some r) : Calls Tryz.prog 61 #[.string a0] w fun e w' => e = .returned (.bool r) /\ Below w.heap.size w w' := by
 unfold octet_Label.f at h
 by_cases h0 : a0.size <= 140737488351232
 · rw [if_pos h0] at h
   obtain rfl := Option.some.inj h
   exact label_walk a0 w h0
 · rw [if_neg h0] at h; cases h
def octet_Number.f (a0 : ByteArray) : Option (Int × Int) := if a0.size <= 140737488351232 then some (numS a0) else none
theorem octet_Number.calls (a0 : ByteArray) (r1 r2 : Int) (w : World) (h : octet_Number.f a0 = some (r1, r2)) : Calls Tryz.prog 123 #[.string a0] w fun e w' => e = .returned (.tuple #[.int .u64 r1, .int .i64 r2]) /\ Below w.heap.size w w' := by
 unfold octet_Number.f at h
 by_cases h0 : a0.size <= 140737488351232
 · rw [if_pos h0] at h
   have e := Option.some.inj h
   have := number_walk a0 w h0
   rw [e] at this
   exact this
 · rw [if_neg h0] at h; cases h
/-- the first place of a string; the length, if there is none -/
def idxS (l : List ByteArray) (s : ByteArray) : Nat := l.findIdx (· = s)
def hasStr (l : List ByteArray) (s : ByteArray) : Bool := decide (idxS l s < l.length)
theorem idxS_hit (l : List ByteArray) (s : ByteArray) (i : Nat) (hi : i < l.length) (h : l.getD i ByteArray.empty = s) (hn : ∀ j < i, l.getD j ByteArray.empty ≠ s) : idxS l s = i := by
 unfold idxS
 rw [List.findIdx_eq hi]
 refine ⟨by rw [List.getD_eq_getElem?_getD, List.getElem?_eq_getElem hi] at h; simpa using h, fun j hj => ?_⟩
 have := hn j hj
 rw [List.getD_eq_getElem?_getD, List.getElem?_eq_getElem (show j < l.length by omega)] at this
 simpa using this
theorem idxS_none (l : List ByteArray) (s : ByteArray) (hn : ∀ j < l.length, l.getD j ByteArray.empty ≠ s) : ¬ idxS l s < l.length := by
 intro h
 unfold idxS at h
 have h1 := List.findIdx_getElem (w := h)
 have h2 := hn _ h
 rw [List.getD_eq_getElem?_getD, List.getElem?_eq_getElem h] at h2
 exact h2 (by simpa using h1)
theorem c_indexStr (A : Option Addr) (c : Nat) (l : List ByteArray) (s : ByteArray) (w : World) (hA : Kd.C Kd.string w A l.length l) (hc : l.length <= c) (hl : l.length <= 1048576) :
 Calls Tryz.prog 102 #[.slice A l.length c, .string s] w fun e w' => e = .returned (.int .i64 (if idxS l s < l.length then (idxS l s : Int) else -1)) /\ w' = w := by
 have HA := Zz.mk hA
 clear hA
 have HE := Zz.mk (show ∀ r, (if idxS l s < l.length then (idxS l s : Int) else -1) = r -> True from fun _ _ => trivial)
 generalize hR : (if idxS l s < l.length then (idxS l s : Int) else -1) = R
 have HR := Zz.mk hR
 clear hR HE
 go_enter Tryz.func102, Tryz.ntmps102
 go_wp2
 go_loopw [8] (fun v8 wr => ∃ i : Nat, i <= l.length /\ v8 = .int .i64 (i : Int) /\ wr = w /\ Zz (∀ j < i, l.getD j ByteArray.empty ≠ s)) (fun v8 _ => l.length - (intOf v8).toNat)
 case atStart => exact ⟨0, by omega, rfl, rfl, ⟨fun j hj => absurd hj (by omega)⟩⟩
 case round =>
  obtain ⟨i, hi, rfl, rfl, hN⟩ := hrel
  by_cases hlt : i < l.length
  · have hti : (i : Int) < (l.length : Int) := by omega
    obtain ⟨ad1, ea1, hx1⟩ := Kd.at_string HA.out (i : Int) (by omega) hti
    subst ea1
    rw [Int.toNat_natCast] at hx1
    have hn1 : rdOf ByteArray.empty l (i : Int) = l.getD i ByteArray.empty := rfl
    rw [hn1] at hx1
    obtain ⟨x, hx⟩ : ∃ x, x = l.getD i ByteArray.empty := ⟨_, rfl⟩
    rw [<- hx] at hx1
    have HX := Zz.mk hx
    clear hx hn1
    by_cases he : s = x
    · have te : (s.toList == x.toList) = true := by rw [<- he]; exact beq_self_eq_true _
      have HI := idxS_hit l s i hlt (by rw [<- HX.out, he]) hN.out
      obtain rfl : R = (i : Int) := by rw [<- HR.out, HI, if_pos hlt]
      clear he HI HR
      go_wp2
      go_ret
      exact ⟨rfl, rfl⟩
    · have te := str_ne he
      have HJ : Zz (∀ j < i + 1, l.getD j ByteArray.empty ≠ s) := ⟨fun j hj => by
       rcases Nat.lt_or_ge j i with h | h
       · exact hN.out j h
       · obtain rfl : j = i := by omega
         rw [<- HX.out]
         exact fun h => he h.symm⟩
      clear he
      go_wp2
      go_roundw
      case rel => exact ⟨i + 1, by omega, by go_num, trivial, HJ⟩
      case measure => simp [intOf]; omega
  · obtain rfl : i = l.length := by omega
    have HI := Zz.mk (idxS_none l s hN.out)
    obtain rfl : R = -1 := by rw [<- HR.out, if_neg HI.out]
    go_wp2
    go_ret
    exact ⟨rfl, rfl⟩
theorem c_containsStr (A : Option Addr) (c n : Nat) (l : List ByteArray) (s : ByteArray) (w : World) (hA : Kd.C Kd.string w A l.length l) (hc : l.length <= c) (hl : l.length <= 1048576) (hn : n = l.length) :
 Calls Tryz.prog 62 #[.slice A n c, .string s] w fun e w' => e = .returned (.bool (hasStr l s)) /\ w' = w := by
 subst hn
 have ci := Lib.hid (c_indexStr A c l s w hA hc hl)
 clear hA
 unfold hasStr
 by_cases h : idxS l s < l.length
 · rw [if_pos h] at ci
   rw [decide_eq_true h]
   clear h
   generalize idxS l s = k at *
   have t : decide (0 <= (k : Int)) = true := decide_eq_true (by omega)
   go_enter Tryz.func62, Tryz.ntmps62
   go_wp2_with (first | (go_at_call 102; refine ci.out.mono ?_; rintro e v ⟨rfl, hv⟩; obtain rfl := hv.symm) | fail)
   go_ret
   exact ⟨rfl, rfl⟩
 · rw [if_neg h] at ci
   rw [decide_eq_false h]
   clear h
   go_enter Tryz.func62, Tryz.ntmps62
   go_wp2_with (first | (go_at_call 102; refine ci.out.mono ?_; rintro e v ⟨rfl, hv⟩; obtain rfl := hv.symm) | fail)
   go_ret
   exact ⟨rfl, rfl⟩
/-- are the names labels, and none twice? -/
def namesOk (l : List ByteArray) (n : Nat) : Bool := (List.range n).all fun i => labelS (l.getD i ByteArray.empty) && !(hasStr (l.take i) (l.getD i ByteArray.empty))
theorem namesOk_succ (l : List ByteArray) (n : Nat) : namesOk l (n + 1) = (namesOk l n && (labelS (l.getD n ByteArray.empty) && !(hasStr (l.take n) (l.getD n ByteArray.empty)))) := by
 unfold namesOk
 rw [List.range_succ, List.all_append]
 simp
theorem namesOk_le (l : List ByteArray) (n m : Nat) (h : namesOk l m = true) (hnm : n <= m) : namesOk l n = true := by
 induction m with
 | zero => obtain rfl : n = 0 := by omega
           exact h
 | succ k ih =>
   rcases Nat.lt_or_ge n (k + 1) with h1 | h1
   · rw [namesOk_succ, Bool.and_eq_true] at h
     exact ih h.1 (by omega)
   · obtain rfl : n = k + 1 := by omega
     exact h
def headedS (s r : Int) (l : List ByteArray) : Bool := decide (8 <= s /\ s <= 2048 /\ 1 <= r /\ r <= 1024 /\ 1 <= l.length /\ l.length <= 16) && namesOk l l.length
theorem c_headed (s r : Int) (A : Option Addr) (c : Nat) (l : List ByteArray) (B : Option Addr) (m d : Nat) (w : World) (hA : Kd.C Kd.string w A l.length l) (hc : l.length <= c) (hl : l.length <= 1048576)
 (hz : ∀ i, (l.getD i ByteArray.empty).size <= 140737488351232) :
 Calls Tryz.prog 24 #[.agg #[.int .i64 s, .int .i64 r, .slice A l.length c, .slice B m d]] w fun e w' => e = .returned (.bool (headedS s r l)) /\ Below w.heap.size w w' := by
 have HA := Zz.mk hA
 have HZ := Zz.mk hz
 clear hA hz
 have HQ := Zz.mk (show headedS s r l = (decide (8 <= s /\ s <= 2048 /\ 1 <= r /\ r <= 1024 /\ 1 <= l.length /\ l.length <= 16) && namesOk l l.length) from rfl)
 generalize headedS s r l = R at *
 by_cases h1 : s < 8
 · have t1 : decide (s < 8) = true := decide_eq_true h1
   obtain rfl : R = false := by rw [HQ.out, decide_eq_false (by omega)]; rfl
   clear h1
   go_enter Tryz.func24, Tryz.ntmps24
   go_wp2
   go_ret
   exact ⟨rfl, (Below.refl _ _).alloc (Nat.le_refl _) _⟩
 have t1 : decide (s < 8) = false := decide_eq_false h1
 by_cases h2 : 2048 < s
 · have t2 : decide (2048 < s) = true := decide_eq_true h2
   obtain rfl : R = false := by rw [HQ.out, decide_eq_false (by omega)]; rfl
   clear h1 h2
   go_enter Tryz.func24, Tryz.ntmps24
   go_wp2
   go_ret
   exact ⟨rfl, (Below.refl _ _).alloc (Nat.le_refl _) _⟩
 have t2 : decide (2048 < s) = false := decide_eq_false h2
 by_cases h3 : r < 1
 · have t3 : decide (r < 1) = true := decide_eq_true h3
   obtain rfl : R = false := by rw [HQ.out, decide_eq_false (by omega)]; rfl
   clear h1 h2 h3
   go_enter Tryz.func24, Tryz.ntmps24
   go_wp2
   go_ret
   exact ⟨rfl, (Below.refl _ _).alloc (Nat.le_refl _) _⟩
 have t3 : decide (r < 1) = false := decide_eq_false h3
 by_cases h4 : 1024 < r
 · have t4 : decide (1024 < r) = true := decide_eq_true h4
   obtain rfl : R = false := by rw [HQ.out, decide_eq_false (by omega)]; rfl
   clear h1 h2 h3 h4
   go_enter Tryz.func24, Tryz.ntmps24
   go_wp2
   go_ret
   exact ⟨rfl, (Below.refl _ _).alloc (Nat.le_refl _) _⟩
 have t4 : decide (1024 < r) = false := decide_eq_false h4
 by_cases h5 : (l.length : Int) < 1
 · have t5 : decide ((l.length : Int) < 1) = true := decide_eq_true h5
   obtain rfl : R = false := by rw [HQ.out, decide_eq_false (by omega)]; rfl
   clear h1 h2 h3 h4 h5
   go_enter Tryz.func24, Tryz.ntmps24
   go_wp2
   go_ret
   exact ⟨rfl, (Below.refl _ _).alloc (Nat.le_refl _) _⟩
 have t5 : decide ((l.length : Int) < 1) = false := decide_eq_false h5
 by_cases h6 : 16 < (l.length : Int)
 · have t6 : decide (16 < (l.length : Int)) = true := decide_eq_true h6
   obtain rfl : R = false := by rw [HQ.out, decide_eq_false (by omega)]; rfl
   clear h1 h2 h3 h4 h5 h6
   go_enter Tryz.func24, Tryz.ntmps24
   go_wp2
   go_ret
   exact ⟨rfl, (Below.refl _ _).alloc (Nat.le_refl _) _⟩
 have t6 : decide (16 < (l.length : Int)) = false := decide_eq_false h6
 replace HQ := Zz.mk (show R = namesOk l l.length by rw [HQ.out, decide_eq_true (by omega)]; rfl)
 clear h1 h2 h3 h4 h5 h6
 have cl := Lib.hid octet_Label.calls
 have cc := Lib.hid c_containsStr
 go_enter Tryz.func24, Tryz.ntmps24
 go_wp2
 go_loopw [38] (fun v38 wr => ∃ i : Nat, i <= l.length /\ v38 = .int .i64 (i : Int) /\ Zz (wr.heap[w.heap.size]? = some (.cells #[.int .i64 s, .int .i64 r, .slice A l.length c, .slice B m d] 25)) /\ Zz (namesOk l i = true) /\ Zz (Below w.heap.size w wr)) (fun v38 _ => l.length - (intOf v38).toNat)
 case atStart =>
  exact ⟨0, by omega, rfl, ⟨heap_alloc_new w _⟩, ⟨rfl⟩, ⟨(Below.refl _ _).alloc (Nat.le_refl _) _⟩⟩
 case round =>
  obtain ⟨i, hi, rfl, HP, HN, HB⟩ := hrel
  by_cases hlt : i < l.length
  · have hti : (i : Int) < (l.length : Int) := by omega
    obtain ⟨ad1, ea1, hx1⟩ := Kd.at_string (Kd.C_below HA.out HB.out) (i : Int) (by omega) hti
    subst ea1
    rw [Int.toNat_natCast] at hx1
    have hn1 : rdOf ByteArray.empty l (i : Int) = l.getD i ByteArray.empty := rfl
    rw [hn1] at hx1
    have HS := Zz.mk (namesOk_succ l i)
    have HZ1 := Zz.mk (HZ.out i)
    have HLT := Zz.mk hlt
    clear hn1
    have HX : ∃ x, x = l.getD i ByteArray.empty := ⟨_, rfl⟩
    obtain ⟨x, hx⟩ := HX
    rw [<- hx] at HS HZ1 hx1
    have HXX := Zz.mk hx
    clear hx
    cases hb : labelS x with
    | false =>
      have HL := Zz.mk (show octet_Label.f x = some false by unfold octet_Label.f; rw [if_pos HZ1.out, hb])
      obtain rfl : R = false := by
       rw [HQ.out]
       cases hq : namesOk l l.length with
       | false => rfl
       | true => exact absurd (namesOk_le l (i + 1) l.length hq hlt) (by rw [HS.out, hb]; simp)
      clear hb
      go_wp2_with (first
       | (go_at_call 61
          refine (cl.out x false _ HL.out).mono ?_
          rintro e v ⟨rfl, hb⟩)
       | fail)
      go_ret
      exact ⟨rfl, HB.out.trans (hb.mono HB.out.size)⟩
    | true =>
      have HL := Zz.mk (show octet_Label.f x = some true by unfold octet_Label.f; rw [if_pos HZ1.out, hb])
      have htl : (l.take i).length = i := by rw [List.length_take]; omega
      have HLC : Zz (Kd.C Kd.string wr (some ad1) (l.take i).length (l.take i)) := ⟨Kd.C_take (Kd.C_below HA.out HB.out) hi⟩
      have HTL := Zz.mk htl
      have HLC2 : Zz ((l.take i).length <= c /\ (l.take i).length <= 1048576) := ⟨by rw [htl]; omega⟩
      clear htl
      have h0i : decide ((0 : Int) <= (i : Int)) = true := decide_eq_true (by omega)
      have hic : decide ((i : Int) <= (c : Int)) = true := decide_eq_true (by omega)
      have hic2 : i <= c := by omega
      cases hb2 : hasStr (l.take i) x with
      | true =>
        obtain rfl : R = false := by
         rw [HQ.out]
         cases hq : namesOk l l.length with
         | false => rfl
         | true => exact absurd (namesOk_le l (i + 1) l.length hq hlt) (by rw [HS.out, hb, hb2]; simp)
        generalize l.take i = T at *
        have HB2 := Zz.mk hb2
        clear hb hb2
        go_wp2_with (first
         | (go_at_call 61
            refine (cl.out x true _ HL.out).mono ?_
            rintro e v ⟨rfl, hb⟩
            have hcell : v.cell? ⟨w.heap.size, 2, none⟩ = some (.slice (some ad1) l.length c) := (blk_cell (krow HP.out hb) 2).trans rfl
            have HB3 := Zz.mk (HB.out.trans (hb.mono HB.out.size))
            have HLC3 := Zz.mk (Kd.C_below HLC.out hb)
            clear hb)
         | (go_at_call 62
            refine (cc.out (some ad1) c i T x _ HLC3.out HLC2.out.1 HLC2.out.2 HTL.out.symm).mono ?_
            rintro e v2 ⟨rfl, hv⟩
            obtain rfl := hv.symm
            rw [HB2.out])
         | fail)
        go_ret
        exact ⟨rfl, HB3.out⟩
      | false =>
        have HN2 : Zz (namesOk l (i + 1) = true) := ⟨by rw [HS.out, hb, hb2, HN.out]; rfl⟩
        generalize l.take i = T at *
        have HB2 := Zz.mk hb2
        clear hb hb2
        go_wp2_with (first
         | (go_at_call 61
            refine (cl.out x true _ HL.out).mono ?_
            rintro e v ⟨rfl, hb⟩
            have HPv := Zz.mk (krow HP.out hb)
            have hcell : v.cell? ⟨w.heap.size, 2, none⟩ = some (.slice (some ad1) l.length c) := (blk_cell HPv.out 2).trans rfl
            have HB3 := Zz.mk (HB.out.trans (hb.mono HB.out.size))
            have HLC3 := Zz.mk (Kd.C_below HLC.out hb)
            clear hb)
         | (go_at_call 62
            refine (cc.out (some ad1) c i T x _ HLC3.out HLC2.out.1 HLC2.out.2 HTL.out.symm).mono ?_
            rintro e v2 ⟨rfl, hv⟩
            obtain rfl := hv.symm
            rw [HB2.out])
         | fail)
        go_roundw
        case rel => exact ⟨i + 1, by omega, by go_num, HPv, HN2, HB3⟩
        case measure => simp [intOf]; omega
  · obtain rfl : i = l.length := by omega
    obtain rfl : R = true := by rw [HQ.out, HN.out]
    go_wp2
    go_ret
    exact ⟨rfl, HB.out⟩
theorem sizeBuilder : (Tryz.prog.info? 77).map (·.size) = some 2 := by kernel_rfl
theorem liesBuilder : liesAt Tryz.prog Tryz.prog.depth 77 (2 / Tryz.prog.cellsOf 77) 0 77 1 = true := by kernel_rfl
theorem copy_used (b : Nat) (w : World) (h0 : w.cell? ⟨b, 0, none⟩ = some (.pointer (some ⟨b, 0, none⟩))) :
 Calls Tryz.prog 92 #[.pointer (some ⟨b, 0, none⟩)] w fun e w' => e = .returned (.tuple #[]) /\ w' = w := by
 obtain ⟨j, hj, _⟩ := Option.map_eq_some_iff.1 sizeBuilder
 go_enter Tryz.func92, Tryz.ntmps92
 go_wp2
 rw [Lib.run_neq_ptr_same w _ Tryz.underlying75 hj]
 go_wp2
 go_end0
 exact ⟨rfl, rfl⟩
theorem copy_fresh (b : Nat) (w : World) (h0 : w.cell? ⟨b, 0, none⟩ = some (.pointer none)) (hsh : w.shape? b = some (77, 2)) (hfz : w.frozen? ⟨b, 0, none⟩ = false) :
 Calls Tryz.prog 92 #[.pointer (some ⟨b, 0, none⟩)] w fun e w' => e = .returned (.tuple #[]) /\ w' = w.setCell ⟨b, 0, none⟩ (.pointer (some ⟨b, 0, none⟩)) := by
 obtain ⟨j, hj, hjs⟩ := Option.map_eq_some_iff.1 sizeBuilder
 go_enter Tryz.func92, Tryz.ntmps92
 go_wp2
 rw [Lib.run_to_unsafe w ⟨b, 0, none⟩ Tryz.underlying75 Tryz.underlying157 hj (by rw [hjs]; decide) hsh (Nat.zero_lt_succ 1)]
 simp only [Result.andThen]
 rw [Oper.upon_value]
 go_wp2
 rw [run_callFunc_extern Tryz.func130 (by kernel_rfl) (by kernel_rfl) (by kernel_rfl) (e := Extern.AbiNoEscape.same) (by kernel_rfl)]
 rw [Lib.run_noEscape]
 simp only [Result.andThen]
 rw [Oper.upon_value]
 go_wp2
 rw [Lib.run_from_unsafe w ⟨b, 0, none⟩ Tryz.underlying157 Tryz.underlying75 hj hsh liesBuilder]
 simp only [Result.andThen]
 rw [Oper.upon_value]
 go_wp2
 go_end0
 exact ⟨rfl, rfl⟩
theorem c_copyCheck (B b : Nat) (bs : List Value) (w : World) (h : Lib.IsBuilder 77 5 B b bs w) :
 Calls Tryz.prog 92 #[.pointer (some ⟨b, 0, none⟩)] w fun e w' => e = .returned (.tuple #[]) /\ (Lib.BuilderAt 77 5 B b (.pointer (some ⟨b, 0, none⟩)) bs w' /\ Below B w w') := by
 rcases h with h | h
 · refine (copy_fresh b w h.cell0 h.shape h.frozen0).mono ?_
   rintro e w' ⟨rfl, rfl⟩
   exact ⟨rfl, h.used _, (Below.refl B w).setCell (p := ⟨b, 0, none⟩) h.1 _⟩
 · refine (copy_used b w h.cell0).mono ?_
   rintro e w' ⟨rfl, rfl⟩
   exact ⟨rfl, h, Below.refl B _⟩
theorem c_WriteByte (B b : Nat) (bs : List Value) (c : Int) (w : World) (h : Lib.IsBuilder 77 5 B b bs w) (hlen : bs.length + 1 <= 140737488355328) (hBw : B <= w.heap.size) :
 Calls Tryz.prog 140 #[.pointer (some ⟨b, 0, none⟩), .int .u8 c] w fun e w' => e = .returned .nilIface /\ (Lib.BuilderAt 77 5 B b (.pointer (some ⟨b, 0, none⟩)) (bs ++ [.int .u8 c]) w' /\ Below B w w') := by
 obtain ⟨i0, hi, hz0, hz1, hz2⟩ := info_parts info_u8
 go_enter Tryz.func140, Tryz.ntmps140
 go_wp2_with (go_at_call 92; refine (c_copyCheck B b bs _ h).mono ?_)
 rintro e w1 ⟨rfl, h1, hb1⟩
 obtain ⟨hB, v, hbk, hown, hne⟩ := h1
 have c0 : w1.cell? ⟨b, 0, none⟩ = some (.pointer (some ⟨b, 0, none⟩)) := by rw [Lib.cell_of_heap hbk]; rfl
 have c1 : w1.cell? ⟨b, 1, none⟩ = some v := by rw [Lib.cell_of_heap hbk]; rfl
 go_wp2_with (at_builtin; refine wpList_append_own _ rfl _ _ 31 rfl B 5 i0 (.int .u8 0) 1 1 Tryz.underlying31 hi hz0 hz1 hz2 rfl (by decide) _ _ _ rfl (hown.alloc _) ⟨w1.heap.size, 0, none⟩ 1 1 [.int .u8 c] rfl rfl ?c1 ?c2 ?c3 ?c4 ?c5 ?_)
 case c1 =>
  intro j u hj
  match j, hj with
  | 0, hj => simp at hj; subst hj; simp [Addr.add]
 case c2 => intro u hu; simp at hu; subst hu; rfl
 case c3 => unfold maxLen; omega
 case c4 => omega
 case c5 => have := hb1.size; simp; omega
 intro v' w2 hown' hgrow _
 have hlt : b < w1.heap.size := by
  rcases Nat.lt_or_ge b w1.heap.size with h' | h'
  · exact h'
  · simp [Array.getElem?_eq_none h'] at hbk
 have hb2 : w2.heap[b]? = some (.cells #[.pointer (some ⟨b, 0, none⟩), v] 77 (0, 0)) := by
  rw [hgrow.block b (by simp; omega) (fun e => hne e.symm), Lib.alloc_old w1 _ b hlt]
  exact hbk
 have d0 : w2.cell? ⟨b, 0, none⟩ = some (.pointer (some ⟨b, 0, none⟩)) := by rw [Lib.cell_of_heap hb2]; rfl
 have d1 : w2.cell? ⟨b, 1, none⟩ = some v := by rw [Lib.cell_of_heap hb2]; rfl
 have f1 : w2.frozen? ⟨b, 1, none⟩ = false := Lib.frozen_of_heap hb2 1
 obtain ⟨g, cap, rfl⟩ : ∃ g cap, v' = .slice (some ⟨g, 0, none⟩) (bs.length + 1) cap := by
  rcases hown'.2 with ⟨_, h0⟩ | ⟨g, cap, cur, hv, _⟩
  · omega
  · exact ⟨g, cap, hv⟩
 go_wp2
 go_ret
 refine ⟨rfl, ?_, ?_⟩
 · exact Lib.BuilderAt.put (T := 77) (e := 5) hB hb2 (bs' := bs ++ [.int .u8 c]) (by simpa using hown') (by decide)
 · exact ((hb1.alloc (by have := hb1.size; omega) _).grown hgrow (by have := hb1.size; simp; omega) (fun k hk => (hown.lt k hk).1)).setCell (p := ⟨b, 1, none⟩) hB _
/-- marks in bytes -/
def markB (b : Bool) : UInt8 := if b = true then 43 else 45
def pickL (l : List Bool) : List UInt8 := if l.length = 0 then [46] else l.map markB
def pickS (l : List Bool) : ByteArray := ⟨(pickL l).toArray⟩
theorem takeb_snoc (l : List Bool) (i : Nat) (hi : i < l.length) : l.take (i + 1) = l.take i ++ [l.getD i false] := by
 rw [List.take_add_one, List.getD_eq_getElem?_getD, List.getElem?_eq_getElem hi]
 rfl
theorem c_picked (A : Option Addr) (c : Nat) (l : List Bool) (w : World) (hA : Kd.C Kd.bool w A l.length l) (hc : l.length <= c) (hl : l.length <= 1048576) :
 Calls Tryz.prog 111 #[.slice A l.length c] w fun e w' => e = .returned (.string (pickS l)) /\ Below w.heap.size w w' := by
 have HA := Zz.mk hA
 clear hA
 by_cases h0 : l.length = 0
 · rw [show pickS l = ⟨#[46]⟩ by unfold pickS pickL; rw [if_pos h0]]
   generalize l.length = n at *
   subst h0
   go_enter Tryz.func111, Tryz.ntmps111
   go_wp2
   go_ret
   exact ⟨rfl, Below.refl _ _⟩
 · have t0 : ((l.length : Int) == 0) = false := beq_eq_false_iff_ne.2 (by omega)
   have HP := Zz.mk (show pickL l = l.map markB by unfold pickL; rw [if_neg h0])
   have cw := Lib.hid c_WriteByte
   clear h0
   go_enter Tryz.func111, Tryz.ntmps111
   go_wp2
   go_loopw [11] (fun v11 wr => ∃ i : Nat, i <= l.length /\ v11 = .int .i64 (i : Int) /\ Zz (Lib.IsBuilder 77 5 w.heap.size w.heap.size (Lib.byteCells ((l.take i).map markB)) wr) /\ Zz (Below w.heap.size w wr)) (fun v11 _ => l.length - (intOf v11).toNat)
   case atStart =>
    refine ⟨0, by omega, rfl, ⟨.inl ⟨Nat.le_refl _, .slice none 0 0, heap_alloc_new w _, World.ownsRow_nil _ _ _ _, by simp [Value.ownBlock]⟩⟩, ⟨(Below.refl _ _).alloc (Nat.le_refl _) _⟩⟩
   case round =>
    obtain ⟨i, hi, rfl, hI, hW⟩ := hrel
    by_cases hlt : i < l.length
    · have hti : (i : Int) < (l.length : Int) := by omega
      obtain ⟨ad1, ea1, hx1⟩ := Kd.at_bool (Kd.C_below HA.out hW.out) (i : Int) (by omega) hti
      subst ea1
      rw [Int.toNat_natCast] at hx1
      have hn1 : rdOf false l (i : Int) = l.getD i false := rfl
      rw [hn1] at hx1
      have hlen : (Lib.byteCells ((l.take i).map markB)).length + 1 <= 140737488355328 := by simp [Lib.byteCells]; omega
      have HS := Zz.mk (show ∀ b, l.getD i false = b -> Lib.byteCells ((l.take (i + 1)).map markB) = Lib.byteCells ((l.take i).map markB) ++ [.int .u8 (((markB b).toNat : Nat) : Int)] from fun b hb => by
       rw [takeb_snoc l i hlt, hb]; simp [Lib.byteCells])
      clear hn1
      cases hb : l.getD i false with
      | true =>
        rw [hb] at hx1
        have HS1 := Zz.mk (HS.out true hb)
        clear HS hb
        go_wp2_with (first
         | (go_at_call 140
            refine (cw.out w.heap.size w.heap.size _ 43 wr hI.out hlen hW.out.size).mono ?_
            rintro e v ⟨rfl, hbb, hb⟩
            have HI2 := Zz.mk hbb
            have HB2 := Zz.mk (hW.out.trans hb)
            clear hbb hb)
         | fail)
        go_roundw
        case rel => exact ⟨i + 1, by omega, by go_num, ⟨by rw [HS1.out]; exact .inr HI2.out⟩, HB2⟩
        case measure => simp [intOf]; omega
      | false =>
        rw [hb] at hx1
        have HS1 := Zz.mk (HS.out false hb)
        clear HS hb
        go_wp2_with (first
         | (go_at_call 140
            refine (cw.out w.heap.size w.heap.size _ 45 wr hI.out hlen hW.out.size).mono ?_
            rintro e v ⟨rfl, hbb, hb⟩
            have HI2 := Zz.mk hbb
            have HB2 := Zz.mk (hW.out.trans hb)
            clear hbb hb)
         | fail)
        go_roundw
        case rel => exact ⟨i + 1, by omega, by go_num, ⟨by rw [HS1.out]; exact .inr HI2.out⟩, HB2⟩
        case measure => simp [intOf]; omega
    · obtain rfl : i = l.length := by omega
      have hcs := Tryz.Builder_String_any w.heap.size w.heap.size ((l.take l.length).map markB) wr hI.out hW.out.size
      rw [List.take_of_length_le (Nat.le_refl _), <- HP.out] at hcs
      have cs := Lib.hid hcs
      clear hcs hI
      go_wp2_with (first
       | (go_at_call 46
          refine cs.out.mono ?_
          rintro e v ⟨rfl, hb⟩)
       | fail)
      go_ret
      exact ⟨rfl, hW.out.trans hb⟩
end Go.Proofs.YtpdinahdcedmkaaGreatDoor.Ext
namespace Go.Proofs.YtpdinahdcedmkaaGreatDoor.Ext
set_option linter.unusedVariables false
open Go.RowKit Go.Proofs.YtpdinahdcedmkaaGreatDoorW.PrintWords Go.Proofs.YtpdinahdcedmkaaGreatDoorW.PrintLast Go.Proofs.YtpdinahdcedmkaaGreatDoorW.PrintMore
theorem has_t {d : Int} {c : UInt8} (h : hasS d c = true) (w : World) : Calls Tryz.prog 103 #[.int .i64 d, .string ⟨#[c]⟩] w fun e w' => e = .returned (.bool true) /\ Below w.heap.size w w' := by rw [<- h]; exact c_has d c w
theorem has_f {d : Int} {c : UInt8} (h : hasS d c = false) (w : World) : Calls Tryz.prog 103 #[.int .i64 d, .string ⟨#[c]⟩] w fun e w' => e = .returned (.bool false) /\ Below w.heap.size w w' := by rw [<- h]; exact c_has d c w
/-- is a device's number such that it may be? -/
def inS (is : Bool) (n : Int) (m : Nat) : Bool := decide (0 <= n) && (decide (n < m) && (is || decide (n = 0)))
theorem c_in (is : Bool) (n : Int) (b : Nat) (A : Option Addr) (m c : Nat) (w : World) (h2 : w.cell? ⟨b, 2, none⟩ = some (.slice A m c)) :
 Calls Tryz.prog 106 #[.bool is, .int .i64 n, .pointer (some ⟨b, 0, none⟩)] w fun e w' => e = .returned (.bool (inS is n m)) /\ w' = w := by
 obtain ⟨R, hR⟩ : ∃ R, inS is n m = R := ⟨_, rfl⟩
 rw [hR]
 unfold inS at hR
 by_cases h0 : 0 <= n
 · have t0 : decide (0 <= n) = true := decide_eq_true h0
   by_cases h1 : n < m
   · have t1 : decide (n < (m : Int)) = true := decide_eq_true h1
     cases is with
     | true =>
       obtain rfl : R = true := by rw [<- hR, t0, t1]; rfl
       clear hR h0 h1
       go_enter Tryz.func106, Tryz.ntmps106
       go_wp2
       go_ret
       exact ⟨rfl, rfl⟩
     | false =>
       by_cases h3 : n = 0
       · obtain rfl : R = true := by rw [<- hR, t0, t1, decide_eq_true h3]; rfl
         have t3 : (n == 0) = true := beq_iff_eq.2 h3
         clear hR h0 h1 h3
         go_enter Tryz.func106, Tryz.ntmps106
         go_wp2
         go_ret
         exact ⟨rfl, rfl⟩
       · obtain rfl : R = false := by rw [<- hR, t0, t1, decide_eq_false h3]; rfl
         have t3 : (n == 0) = false := beq_eq_false_iff_ne.2 h3
         clear hR h0 h1 h3
         go_enter Tryz.func106, Tryz.ntmps106
         go_wp2
         go_ret
         exact ⟨rfl, rfl⟩
   · have t1 : decide (n < (m : Int)) = false := decide_eq_false h1
     obtain rfl : R = false := by rw [<- hR, t0, t1]; rfl
     clear hR h0 h1
     go_enter Tryz.func106, Tryz.ntmps106
     go_wp2
     go_ret
     exact ⟨rfl, rfl⟩
 · have t0 : decide (0 <= n) = false := decide_eq_false h0
   obtain rfl : R = false := by rw [<- hR, t0]; rfl
   clear hR h0
   go_enter Tryz.func106, Tryz.ntmps106
   go_wp2
   go_ret
   exact ⟨rfl, rfl⟩
theorem c_inB {is : Bool} {n : Int} {m : Nat} {R : Bool} (hR : inS is n m = R) (b : Nat) (A : Option Addr) (c : Nat) (w : World) (h2 : w.cell? ⟨b, 2, none⟩ = some (.slice A m c)) :
 Calls Tryz.prog 106 #[.bool is, .int .i64 n, .pointer (some ⟨b, 0, none⟩)] w fun e w' => e = .returned (.bool R) /\ Below w.heap.size w w' :=
 (c_in is n b A m c w h2).mono fun e w' h => ⟨by rw [h.1, hR], by rw [h.2]; exact Below.refl _ _⟩
end Go.Proofs.YtpdinahdcedmkaaGreatDoor.Ext
-- Written by this session's program xprint.py; not trusted: Lean checks it.
namespace Go.Proofs.YtpdinahdcedmkaaGreatDoor.Q
open Go.Proofs.YtpdinahdcedmkaaGreatDoor.Ext hiding blk_cell blk_set nums_append
open Go.RowKit Go.Proofs.YtpdinahdcedmkaaGreatDoorW.PrintWords Go.Proofs.YtpdinahdcedmkaaGreatDoorW.PrintLast Go.Proofs.YtpdinahdcedmkaaGreatDoorW.PrintMore
attribute [local go_sem] max2_int min2_int max_two min_two max_three min_three max_four min_four   -- for this text's walks alone
set_option linter.unusedVariables false
set_option linter.unusedSimpArgs false
-- the values' own types
/-! #### struct type 74 -/
structure S74 where
 f0 : Int
 f1 : Int
/-! #### struct type 30 -/
structure S30 where
 f0 : Int
 f1 : Int
/-! #### struct type 34 -/
structure S34 where
 f0 : Int
 f1 : Int
 f2 : Int
 f3 : Int
 f4 : (List S74)
 f5 : Int
 f6 : Int
 f7 : Int
 f8 : S30
 f9 : Int
 f10 : (List Int)
 f11 : (List Bool)
/-! #### struct type 25 -/
structure S25 where
 f0 : Int
 f1 : Int
 f2 : (List ByteArray)
 f3 : (List S34)
end Go.Proofs.YtpdinahdcedmkaaGreatDoor.Q
namespace Go.Proofs.YtpdinahdcedmkaaGreatDoor.ExtQ
open Go.Proofs.YtpdinahdcedmkaaGreatDoor.Ext
open Go.Proofs.YtpdinahdcedmkaaGreatDoor.Q
set_option linter.unusedVariables false
open Go.RowKit Go.Proofs.YtpdinahdcedmkaaGreatDoorW.PrintLast Go.Proofs.YtpdinahdcedmkaaGreatDoorW.PrintMore
open Go.Proofs.YtpdinahdcedmkaaGreatDoorW.PrintWords hiding blk_cell blk_set nums_append
theorem tabs_at {w W : World} (hT : Zz (Lib.Utf8Tabs 1 2 w)) (hb : Below w.heap.size w W) : Zz (Lib.Utf8Tabs 1 2 W) := ⟨Utf8Tabs_below hT.out hb⟩
def octet_Quote.f (a0 : ByteArray) : Option ByteArray := if a0.size <= 17592186044416 then some (quoteS a0) else none
theorem octet_Quote.calls (a0 : ByteArray) (r : ByteArray) (w : World) (h : octet_Quote.f a0 = some r) (hT : Zz (Lib.Utf8Tabs 1 2 w) := by exact tabs_at HT (by repeat (first | (with_reducible first | exact HB.out | apply below_alloc | apply pw_below_drewN | apply below_drew1) | exact HB.out))) :
 Calls Tryz.prog 94 #[.string a0] w fun e w' => e = .returned (.string r) /\ Below w.heap.size w w' := by
 unfold octet_Quote.f at h
 by_cases h0 : a0.size <= 17592186044416
 · rw [if_pos h0] at h
   obtain rfl := Option.some.inj h
   exact quote_walk a0 w h0 hT.out
 · rw [if_neg h0] at h; cases h
end Go.Proofs.YtpdinahdcedmkaaGreatDoor.ExtQ
