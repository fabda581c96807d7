import Derived.Test.YtpdinahdcedmkaaGreatDoorMRHead
import Derived.Test.YtpdinahdcedmkaaGreatDoorMLab
import Derived.Test.YtpdinahdcedmkaaGreatDoorMUnq
import Derived.Test.YtpdinahdcedmkaaGreatDoorMHex
import Derived.Lib.MapLaws
import Derived.Laws.Cover4
/- The document's Quote: the text in quotes, just as octet.Quote gives it. -/
namespace Go.Proofs.YtpdinahdcedmkaaGreatDoor.Ext
set_option linter.unusedVariables false
set_option linter.unusedSimpArgs false
open Go.RowKit Go.Proofs.YtpdinahdcedmkaaGreatDoorW.PrintWords Go.Proofs.YtpdinahdcedmkaaGreatDoorW.PrintLast Go.Proofs.YtpdinahdcedmkaaGreatDoorW.PrintMore

theorem byte_of (z : Nat) (x : UInt8) (h : z = x.toNat) : UInt8.ofNat z = x := by subst h; simp
theorem enc1 (c : Nat) (h : c < 128) : Utf8.encode (c : Int) = ⟨#[UInt8.ofNat c]⟩ := by
  unfold Utf8.encode
  have hv : Utf8.valid (c : Int) = true := by simp [Utf8.valid]; omega
  simp only [hv, if_true, Int.toNat_natCast, if_pos h]
theorem enc2 (c : Nat) (h : 128 ≤ c) (h2 : c < 2048) : Utf8.encode (c : Int) = ⟨#[UInt8.ofNat (192 + c / 64), UInt8.ofNat (128 + c % 64)]⟩ := by
  unfold Utf8.encode
  have hv : Utf8.valid (c : Int) = true := by simp [Utf8.valid]; omega
  simp only [hv, if_true, Int.toNat_natCast, if_neg (show ¬ c < 128 by omega), if_pos h2]
theorem enc3 (c : Nat) (h : 2048 ≤ c) (h2 : c < 65536) (hs : c < 55296 ∨ 57344 ≤ c) : Utf8.encode (c : Int) = ⟨#[UInt8.ofNat (224 + c / 4096), UInt8.ofNat (128 + c / 64 % 64), UInt8.ofNat (128 + c % 64)]⟩ := by
  unfold Utf8.encode
  have hv : Utf8.valid (c : Int) = true := by simp [Utf8.valid]; omega
  simp only [hv, if_true, Int.toNat_natCast, if_neg (show ¬ c < 128 by omega), if_neg (show ¬ c < 2048 by omega), if_pos h2]
theorem enc4 (c : Nat) (h : 65536 ≤ c) (h2 : c ≤ 1114111) : Utf8.encode (c : Int) = ⟨#[UInt8.ofNat (240 + c / 262144), UInt8.ofNat (128 + c / 4096 % 64), UInt8.ofNat (128 + c / 64 % 64), UInt8.ofNat (128 + c % 64)]⟩ := by
  unfold Utf8.encode
  have hv : Utf8.valid (c : Int) = true := by simp [Utf8.valid]; omega
  simp only [hv, if_true, Int.toNat_natCast, if_neg (show ¬ c < 128 by omega), if_neg (show ¬ c < 2048 by omega), if_neg (show ¬ c < 65536 by omega)]
theorem enc_dec (s : ByteArray) (pos : Nat) (hp : pos < s.size) (hv : ¬ ((Utf8.decode s pos).1 = 65533 ∧ (Utf8.decode s pos).2 = 1)) :
    Utf8.encode ((Utf8.decode s pos).1 : Int) = s.extract pos (pos + (Utf8.decode s pos).2) := by
  have hx : ∀ n, (s.extract pos (pos + n)).data.toList = (s.data.toList.drop pos).take n := by
    intro n
    simp [ByteArray.data_extract, Array.toList_extract, List.extract]
  apply ByteArray.ext
  rw [← Array.toList_inj, hx]
  rw [← Lib.decodeL_drop] at hv ⊢
  have hl : 0 < (s.data.toList.drop pos).length := by rw [List.length_drop]; have : s.data.toList.length = s.size := rfl; omega
  generalize s.data.toList.drop pos = l at *
  rw [Lib.decodeL_N] at hv ⊢
  have k0 := (l.getD 0 0).toNat_lt
  have k1 := (l.getD 1 0).toNat_lt
  have k2 := (l.getD 2 0).toNat_lt
  have k3 := (l.getD 3 0).toNat_lt
  rcases Lib.decodeN_shape l.length (l.getD 0 0).toNat (l.getD 1 0).toNat (l.getD 2 0).toNat (l.getD 3 0).toNat with ⟨c, e⟩ | ⟨c1, c2, c3, cv, e⟩ | ⟨c1, c2, c3, c4, cv, cs, e⟩ | ⟨c1, c2, c3, c4, c5, cv, cw, e⟩ | e
  · rw [e]
    dsimp only
    rw [enc1 _ c, Lib.takeA l hl, byte_of _ (l.getD 0 0) rfl]
  · rw [e]
    dsimp only
    rw [enc2 _ (by omega) (by omega), Lib.takeB l c2, byte_of _ (l.getD 0 0) (by omega), byte_of _ (l.getD 1 0) (by omega)]
  · rw [e]
    dsimp only
    rw [enc3 _ (by omega) (by omega) cs, Lib.takeC l c2, byte_of _ (l.getD 0 0) (by omega), byte_of _ (l.getD 1 0) (by omega), byte_of _ (l.getD 2 0) (by omega)]
  · rw [e]
    dsimp only
    rw [enc4 _ (by omega) (by omega), Lib.takeD l c2, byte_of _ (l.getD 0 0) (by omega), byte_of _ (l.getD 1 0) (by omega), byte_of _ (l.getD 2 0) (by omega), byte_of _ (l.getD 3 0) (by omega)]
  · rw [e] at hv
    exact absurd ⟨rfl, rfl⟩ hv
/-- the document's broken, as a test of bytes and of the first rune -/
def brokenS (s : ByteArray) (pos : Nat) : Bool := decide (128 ≤ (s.data.toList.getD pos 0).toNat) && (!(decide (3 ≤ s.size - pos) && decide (s.extract pos (pos + 3) = ⟨#[239, 191, 189]⟩)) && ((Utf8.decode s pos).1 == 65533))
theorem broken_eq (s : ByteArray) (pos : Nat) (hp : pos < s.size) : brokenS s pos = decide ((Utf8.decode s pos).1 = 65533 ∧ (Utf8.decode s pos).2 = 1) := by
  by_cases hv : (Utf8.decode s pos).1 = 65533 ∧ (Utf8.decode s pos).2 = 1
  · rw [decide_eq_true hv]
    unfold brokenS
    have h128 : 128 ≤ (s.data.toList.getD pos 0).toNat := by
      rcases Nat.lt_or_ge (s.data.toList.getD pos 0).toNat 128 with h | h
      · have e := Lib.decode_N s pos
        unfold Lib.decodeN at e
        rw [if_pos h] at e
        rw [e] at hv
        simp only at hv
        omega
      · exact h
    have h3 : (decide (3 ≤ s.size - pos) && decide (s.extract pos (pos + 3) = (⟨#[239, 191, 189]⟩ : ByteArray))) = false := by
      rw [Bool.and_eq_false_iff]
      by_cases hs : 3 ≤ s.size - pos
      · right
        apply decide_eq_false
        intro he
        have hd : (s.data.toList.drop pos).take 3 = [239, 191, 189] := by
          have hx : (s.extract pos (pos + 3)).data.toList = (s.data.toList.drop pos).take 3 := by
            simp [ByteArray.data_extract, Array.toList_extract, List.extract]
          rw [← hx, he]
        rw [← Lib.decodeL_drop, Lib.decodeL_N] at hv
        have hl : (s.data.toList.drop pos).length = s.size - pos := by rw [List.length_drop]; rfl
        rw [hl] at hv
        generalize s.data.toList.drop pos = l at *
        rw [Lib.takeC l (by omega)] at hd
        simp only [List.cons.injEq, and_true] at hd
        rw [hd.1, hd.2.1, hd.2.2] at hv
        have : Lib.decodeN (s.size - pos) 239 191 189 (l.getD 3 0).toNat = (65533, 3) := by
          unfold Lib.decodeN
          rw [if_neg (by omega), if_neg (by omega), if_pos (by omega), if_pos (by omega)]
        have e2 : Lib.decodeN (s.size - pos) (239 : UInt8).toNat (191 : UInt8).toNat (189 : UInt8).toNat (l.getD 3 0).toNat = (65533, 3) := this
        rw [e2] at hv
        simp at hv
      · left
        exact decide_eq_false hs
    rw [decide_eq_true h128, h3, hv.1]
    rfl
  · rw [decide_eq_false hv]
    unfold brokenS
    by_cases hr : (Utf8.decode s pos).1 = 65533
    · have he := enc_dec s pos hp hv
      rw [hr] at he
      have hE : Utf8.encode ((65533 : Nat) : Int) = ⟨#[239, 191, 189]⟩ := by decide +kernel
      rw [hE] at he
      have hw : (Utf8.decode s pos).2 = 3 := by
        rw [Lib.decode_N] at hr ⊢
        have k0 := (s.data.toList.getD pos 0).toNat_lt
        have k1 := (s.data.toList.getD (pos + 1) 0).toNat_lt
        have hv' := hv
        rw [Lib.decode_N] at hv'
        rcases Lib.decodeN_shape (s.data.toList.length - pos) (s.data.toList.getD pos 0).toNat (s.data.toList.getD (pos + 1) 0).toNat (s.data.toList.getD (pos + 2) 0).toNat (s.data.toList.getD (pos + 3) 0).toNat with ⟨c, e⟩ | ⟨c1, c2, c3, cv, e⟩ | ⟨c1, c2, c3, c4, cv, cs, e⟩ | ⟨c1, c2, c3, c4, c5, cv, cw, e⟩ | e
        all_goals rw [e] at hr hv' ⊢
        all_goals simp only at hr hv' ⊢
        · omega
        · omega
        · omega
        · exact absurd ⟨trivial, trivial⟩ hv'
      rw [hw] at he
      have hsz := congrArg ByteArray.size he
      rw [ByteArray.size_extract] at hsz
      have h3 : 3 ≤ s.size - pos := by
        have : (⟨#[239, 191, 189]⟩ : ByteArray).size = 3 := rfl
        omega
      rw [← he, decide_eq_true h3, decide_eq_true rfl]
      simp
    · have : ((Utf8.decode s pos).1 == 65533) = false := beq_eq_false_iff_ne.2 hr
      rw [this]
      simp
theorem decode_cut (s : ByteArray) (pos : Nat) : Utf8.decode (s.extract pos s.size) 0 = Utf8.decode s pos := by
  rw [← Lib.decodeL_drop s pos]
  unfold Lib.decodeL
  have : (s.extract pos s.size) = ⟨(s.data.toList.drop pos).toArray⟩ := by
    have h1 := Lib.extract_to_end s pos
    apply ByteArray.ext
    rw [← Array.toList_inj, h1]
  rw [this]
theorem runes_head (s : ByteArray) (pos : Nat) (hp : pos < s.size) : ∃ t, runeL (runesOf (s.extract pos s.size)) = ((Utf8.decode s pos).1 : Int) :: t := by
  have hz : 0 < (s.extract pos s.size).size := by rw [ByteArray.size_extract]; omega
  obtain ⟨f', _, e⟩ := rns_step (s.extract pos s.size) (s.extract pos s.size).size 0 hz (by omega)
  refine ⟨runeL (rns (s.extract pos s.size) f' (0 + (Utf8.decode (s.extract pos s.size) 0).2)), ?_⟩
  unfold runesOf
  rw [e, ← decode_cut s pos]
  rfl
theorem natb (r : Nat) : ((r : Int) == 65533) = (r == 65533) := by rw [Bool.eq_iff_iff]; simp; omega
theorem sl3 (s : ByteArray) (pos : Nat) (h : pos + 3 ≤ s.size) : ∀ W, (Instr.slice 9 (.string s) (some (.int .i64 (pos : Int))) (some (.int .i64 ((pos : Int) + 3))) none).run Tryz.prog W = .ok (.string (s.extract pos (pos + 3))) W := by
  intro W
  have := run_slice_string (P := Tryz.prog) (w := W) 9 s .i64 .i64 (pos : Int) ((pos : Int) + 3) Tryz.underlying9 (by omega) (by omega) (by omega)
  rw [this, show ((pos : Int) + 3).toNat = pos + 3 by omega, Int.toNat_natCast]
set_option maxHeartbeats 4000000 in
set_option maxRecDepth 100000 in
theorem r_broken (s : ByteArray) (pos : Nat) (w : World) (hp : pos < s.size) (hs : s.size ≤ 1073741824) :
    Calls Tryz.prog 95 #[.string s, .int .i64 pos] w fun e w' => e = .returned (.bool (brokenS s pos)) ∧ Below w.heap.size w w' := by
  have ix := idx_str s pos hp
  have hbt := bt_list s pos hp
  have hbr := bt_range s pos
  have cR := fun W => rrunes_walk (s.extract pos s.size) W (by rw [ByteArray.size_extract]; omega)
  obtain ⟨t, ht⟩ := runes_head s pos hp
  rw [ht] at cR
  unfold RunesPost at cR
  obtain ⟨R, hR⟩ : ∃ R, brokenS s pos = R := ⟨_, rfl⟩
  rw [hR]
  unfold brokenS at hR
  generalize (Utf8.decode s pos).1 = r at *
  have cR := Lib.hid cR
  by_cases h1 : (128 : Int) ≤ bt s pos
  · rw [decide_eq_true (show 128 ≤ (s.data.toList.getD pos 0).toNat by omega), Bool.true_and] at hR
    clear hbt ht
    have hb1 := hbr.2
    generalize bt s pos = b at *
    clear hbr
    have hpi : (pos : Int) < (s.size : Int) := by omega
    have hsi : (s.size : Int) ≤ 1073741824 := by omega
    by_cases h3 : 3 ≤ s.size - pos
    · have hw1 : (3 : Int) ≤ (s.size : Int) - (pos : Int) := by omega
      have hw3 : pos + 3 ≤ s.size := by omega
      have hw2 : (pos : Int) + 3 ≤ (s.size : Int) := by omega
      rw [decide_eq_true h3, Bool.true_and] at hR
      have hsl := sl3 s pos hw3
      generalize hx : s.extract pos (pos + 3) = x at *
      by_cases he : x = ⟨#[239, 191, 189]⟩
      · have te : x.toList = [239, 191, 189] := by rw [he]; decide +kernel
        obtain rfl : R = false := by rw [← hR, decide_eq_true he]; rfl
        clear hR he hx cR h3
        go_enter Tryz.func95, Tryz.ntmps95
        go_wp2_with fail
        go_ret
        exact ⟨rfl, Below.refl _ _⟩
      · have te : ¬ x.toList = [239, 191, 189] := fun h => he (Go.WideShapes.bytes_inj (by rw [ByteArray.toList_eq] at h; exact h))
        have HR := Lib.hid (show (r == 65533) = R by rw [← hR, decide_eq_false he]; rfl)
        clear hR he hx h3
        go_enter Tryz.func95, Tryz.ntmps95
        go_wp2_with (first
          | (go_at_call 112
             with_reducible refine (cR.out _).mono ?_
             rintro e v ⟨u, rfl, hr, hb⟩
             obtain ⟨A, c, rfl, hle, hC⟩ := Kd.R_reads hr
             obtain ⟨ad, e0, hx0⟩ := Kd.at_int hC (0 : Int) (by omega) (by rw [List.length_cons]; omega)
             cases e0
             have HB := Aside0.mk hb
             have hl1 : (0 : Int) < (((r : Int) :: t).length : Int) := by rw [List.length_cons]; omega
             have hx1 : v.cell? ad = some (.int .i32 (r : Int)) := by simpa [Addr.add, rd] using hx0
             clear hr hC hb hx0)
          | fail)
        go_ret
        exact ⟨by rw [← HR.out, beq_eq_false_iff_ne.2 te, ← natb r]; rfl, HB.out⟩
    · have hw1 : ¬ (3 : Int) ≤ (s.size : Int) - (pos : Int) := by omega
      have HR := Lib.hid (show (r == 65533) = R by rw [← hR, decide_eq_false h3]; rfl)
      clear hR h3
      go_enter Tryz.func95, Tryz.ntmps95
      go_wp2_with (first
        | (go_at_call 112
           with_reducible refine (cR.out _).mono ?_
           rintro e v ⟨u, rfl, hr, hb⟩
           obtain ⟨A, c, rfl, hle, hC⟩ := Kd.R_reads hr
           obtain ⟨ad, e0, hx0⟩ := Kd.at_int hC (0 : Int) (by omega) (by rw [List.length_cons]; omega)
           cases e0
           have HB := Aside0.mk hb
           have hl1 : (0 : Int) < (((r : Int) :: t).length : Int) := by rw [List.length_cons]; omega
           have hx1 : v.cell? ad = some (.int .i32 (r : Int)) := by simpa [Addr.add, rd] using hx0
           clear hr hC hb hx0)
        | fail)
      go_ret
      exact ⟨by rw [← HR.out, ← natb r]; rfl, HB.out⟩
  · obtain rfl : R = false := by rw [← hR, decide_eq_false (show ¬ 128 ≤ (s.data.toList.getD pos 0).toNat by omega)]; rfl
    clear hR cR ht hbt
    generalize bt s pos = b at *
    go_enter Tryz.func95, Tryz.ntmps95
    go_wp2_with fail
    go_ret
    exact ⟨rfl, Below.refl _ _⟩
theorem iter_kept {w w' : World} {o : Obj} {k pos : Nat} {s : ByteArray} (h : w.heap[k]? = some (.stringIter s pos)) (hb : Below (w.alloc o).heap.size (w.alloc o) w') : w'.heap[k]? = some (.stringIter s pos) := (hb.block k (by have := (Array.getElem?_eq_some_iff.1 h).1; simp; omega)).trans (iter_alloc h o)
theorem iter_below {w w' : World} {k pos : Nat} {s : ByteArray} (h : w.heap[k]? = some (.stringIter s pos)) (hb : Below w.heap.size w w') : w'.heap[k]? = some (.stringIter s pos) := (hb.block k (Array.getElem?_eq_some_iff.1 h).1).trans h
theorem C_one (w : World) (b : Int) : Kd.C (Kd.int .u8) (w.alloc (.cells #[.int .u8 b] 5)) (some ⟨w.heap.size, 0, none⟩) [b].length [b] := by
  refine ⟨rfl, by simp, fun _ => ⟨_, rfl, fun j p hj => ?_⟩⟩
  match j, hj with
  | 0, hj =>
    simp at hj
    subst hj
    refine ⟨[.int .u8 b], rfl, rfl, fun i u hu => ?_⟩
    match i, hu with
    | 0, hu =>
      simp at hu
      subst hu
      show World.cell? _ (Addr.add _ (0 * 1 + 0)) = _
      rw [show (Addr.add ⟨w.heap.size, 0, none⟩ (0 * 1 + 0) : Addr) = ⟨w.heap.size, 0, none⟩ by simp [Addr.add]]
      rw [blk_cell (heap_alloc_new w _) 0]
      rfl
  | j + 1, hj => simp at hj
theorem sadd (a b : List Int) : strOfNums a ++ strOfNums b = strOfNums (a ++ b) := (strOfNums_append a b).symm
set_option maxHeartbeats 4000000 in
set_option maxRecDepth 100000 in
theorem r_Quote (s : ByteArray) (w : World) (hs : s.size ≤ 1073741824) :
    Calls Tryz.prog 48 #[.string s] w fun e w' => e = .returned (.string (quoteS s)) ∧ Below w.heap.size w w' := by
  obtain ⟨U, hU⟩ : ∃ U, quoteS s = strOfNums (U ++ [34]) ∧ U = [34] ++ quoteF s (runesOf s) := ⟨_, rfl, rfl⟩
  rw [hU.1]
  have HU := Aside0.mk hU.2
  clear hU
  go_enter Tryz.func48, Tryz.ntmps48
  go_wp2
  go_loopw [3] (fun v3 wr => ∃ (pos fuel : Nat) (L : List Int), wr.heap[w.heap.size]? = some (.stringIter s pos) ∧ v3 = .string (strOfNums L) ∧ Aside0 (L ++ quoteF s (rns s fuel pos) = U ∧ s.size ≤ pos + fuel ∧ pos ≤ s.size) ∧ L.length ≤ 4 * pos + 1 ∧ Aside0 (Below w.heap.size w wr)) (fun _ wr => s.size - wr.iterPos w.heap.size)
  case atStart => exact ⟨0, s.size, [34], iter_new w s, rfl, ⟨HU.out.symm, by omega, by omega⟩, by simp, ⟨(Below.refl _ _).alloc (Nat.le_refl _) _⟩⟩
  case round =>
    obtain ⟨pos, fuel, L, hit, rfl, hR, hL, hB⟩ := hrel
    by_cases hp : pos < s.size
    · have hwl := width_le s pos hp
      have hw1 := Lib.decode_width_pos s pos hp
      have hpl := quoteP_len s pos hp
      obtain ⟨f2, hf2, he2⟩ := rns_step s fuel pos hp hR.out.2.1
      have hnx := fun ty => Lib.run_next_any_at (P := Tryz.prog) wr w.heap.size s pos ty hit hp
      have HI := Aside0.mk (Lib.iterAt_heap wr w.heap.size s pos (pos + (Utf8.decode s pos).2) hit)
      have HBI := Aside0.mk (Lib.below_iterAt hB.out (show w.heap.size ≤ w.heap.size by omega) s (pos + (Utf8.decode s pos).2))
      have HM0 := iter_less hw1 hit hp
      have HMM : Aside0 (s.size - (pos + (Utf8.decode s pos).2) < s.size - wr.iterPos w.heap.size) := ⟨by rwa [iterPos_of HI.out] at HM0⟩
      have HBK := Lib.hid (fun W => r_broken s pos W hp hs)
      rw [broken_eq s pos hp] at HBK
      have HED := Aside0.mk (enc_dec s pos hp)
      clear HM0
      generalize hd : Utf8.decode s pos = d at *
      obtain ⟨r, wd⟩ := d
      simp only at *
      have HR2 : Aside0 (L ++ quoteP s (pos, r, wd) ++ quoteF s (rns s f2 (pos + wd)) = U ∧ s.size ≤ (pos + wd) + f2 ∧ pos + wd ≤ s.size) := ⟨by have := hR.out.1; rw [he2] at this; simpa [quoteF, List.append_assoc] using this, hf2, hwl.1⟩
      clear he2 hR hB hit
      generalize hWI : wr.iterAt w.heap.size s (pos + wd) = wi at *
      have hsz : (strOfNums L).size ≤ 4294967297 := by rw [strOfNums_size]; omega
      have f2' : (strOfNums L).size + 2 ≤ 9223372036854775807 := by omega
      have hpi : (pos : Int) < (s.size : Int) := by omega
      by_cases h34 : r = 34
      · subst h34
        have hq : quoteP s (pos, 34, wd) = [92, 34] := by simp [quoteP]
        rw [hq] at HR2
        clear hpl HBK HED hd hf2
        go_wp2_with fail
        go_roundw
        case rel => exact ⟨pos + wd, f2, L ++ [92, 34], HI.out, by rw [← sadd]; rfl, HR2, by simp; omega, HBI⟩
        case measure => rw [iterPos_of HI.out]; exact HMM.out
      by_cases h92 : r = 92
      · subst h92
        have hq : quoteP s (pos, 92, wd) = [92, 92] := by simp [quoteP]
        rw [hq] at HR2
        clear hpl HBK HED hd hf2
        go_wp2_with fail
        go_roundw
        case rel => exact ⟨pos + wd, f2, L ++ [92, 92], HI.out, by rw [← sadd]; rfl, HR2, by simp; omega, HBI⟩
        case measure => rw [iterPos_of HI.out]; exact HMM.out
      have t34 : ((r : Int) == 34) = false := beq_eq_false_iff_ne.2 (by omega)
      have t92 : ((r : Int) == 92) = false := beq_eq_false_iff_ne.2 (by omega)
      by_cases hesc : r < 32 ∨ r = 127 ∨ (r = 65533 ∧ wd = 1)
      · have hq : quoteP s (pos, r, wd) = [92, 120, hexd (bt s pos / 16), hexd (bt s pos % 16)] := by simp [quoteP, h34, h92, hesc]
        rw [hq] at HR2
        have ix := idx_str s pos hp
        have hbr := bt_range s pos
        generalize bt s pos = b at *
        have hby : Bytes [b] := fun x hx => by simp at hx; subst hx; omega
        have cX := Lib.hid (fun W => refHex_walk (some ⟨W.heap.size, 0, none⟩) 1 [b] _ (C_one W b) (by simp) hby (by simp))
        have hhx : hexS [b] = [hexd (b / 16), hexd (b % 16)] := rfl
        rw [hhx] at cX
        simp only [List.length_cons, List.length_nil] at cX
        generalize hexd (b / 16) = x1 at *
        generalize hexd (b % 16) = x2 at *
        have f3 : 2 + (strOfNums [x1, x2]).size ≤ 9223372036854775807 := by rw [strOfNums_size]; simp
        have f4 : (strOfNums L).size + (⟨#[92, 120]⟩ ++ strOfNums [x1, x2] : ByteArray).size ≤ 9223372036854775807 := by rw [ByteArray.size_append, strOfNums_size [x1, x2]]; show _ + (2 + 2) ≤ _; omega
        clear hq hhx hby hpl HED h34 h92 hd hf2
        rcases hesc with h32 | h127 | hbrk
        · have t32 : (r : Int) < 32 := by omega
          clear HBK
          go_wp2_with (first
            | (go_at_call 75
               with_reducible refine (cX.out _).mono ?_
               rintro e v ⟨rfl, hb⟩
               have HB2 := Aside0.mk (HBI.out.trans (((Below.refl _ _).alloc (Nat.le_refl _) _ |>.trans (hb.mono (by simp))).mono HBI.out.size))
               have HI2 := Aside0.mk (iter_kept HI.out hb)
               clear hb)
            | fail)
          go_roundw
          case rel => exact ⟨pos + wd, f2, L ++ [92, 120, x1, x2], HI2.out, by rw [← sadd]; rfl, HR2, by simp; omega, HB2⟩
          case measure => rw [iterPos_of HI2.out]; exact HMM.out
        · subst h127
          clear HBK t34 t92
          go_wp2_with (first
            | (go_at_call 75
               with_reducible refine (cX.out _).mono ?_
               rintro e v ⟨rfl, hb⟩
               have HB2 := Aside0.mk (HBI.out.trans (((Below.refl _ _).alloc (Nat.le_refl _) _ |>.trans (hb.mono (by simp))).mono HBI.out.size))
               have HI2 := Aside0.mk (iter_kept HI.out hb)
               clear hb)
            | fail)
          go_roundw
          case rel => exact ⟨pos + wd, f2, L ++ [92, 120, x1, x2], HI2.out, by rw [← sadd]; rfl, HR2, by simp; omega, HB2⟩
          case measure => rw [iterPos_of HI2.out]; exact HMM.out
        · obtain ⟨rfl, hw1'⟩ := hbrk
          obtain rfl : 1 = wd := hw1'.symm
          rw [decide_eq_true ⟨rfl, rfl⟩] at HBK
          clear t34 t92
          go_wp2_with (first
            | (go_at_call 95
               with_reducible refine (HBK.out _).mono ?_
               rintro e v0 ⟨rfl, hb0⟩
               have HB0 := Aside0.mk (HBI.out.trans (hb0.mono HBI.out.size))
               have HI0 := Aside0.mk (iter_below HI.out hb0)
               clear hb0)
            | (go_at_call 75
               with_reducible refine (cX.out _).mono ?_
               rintro e v ⟨rfl, hb⟩
               have HB2 := Aside0.mk (HB0.out.trans (((Below.refl _ _).alloc (Nat.le_refl _) _ |>.trans (hb.mono (by simp))).mono HB0.out.size))
               have HI2 := Aside0.mk (iter_kept HI0.out hb)
               clear hb)
            | fail)
          go_roundw
          case rel => exact ⟨pos + 1, f2, L ++ [92, 120, x1, x2], HI2.out, by rw [← sadd]; rfl, HR2, by simp; omega, HB2⟩
          case measure => rw [iterPos_of HI2.out]; exact HMM.out
      · have hq : quoteP s (pos, r, wd) = bytesOf (s.extract pos (pos + wd)) := by
          unfold quoteP
          rw [if_neg (by simp only; omega), if_neg (by simp only; omega)]
        rw [hq] at HR2
        have hE := HED.out (by omega)
        rw [decide_eq_false (by omega)] at HBK
        have hcv := fun W => run_runes1 (r : Int) W
        rw [hE] at hcv
        have hpl2 := hpl
        rw [hq] at hpl2
        have t32 : ¬ (r : Int) < 32 := by omega
        have t127 : ((r : Int) == 127) = false := beq_eq_false_iff_ne.2 (by omega)
        have hxb := strOfNums_bytesOf (s.extract pos (pos + wd))
        have hxs : (s.extract pos (pos + wd)).size = wd := by rw [ByteArray.size_extract]; omega
        generalize s.extract pos (pos + wd) = x at *
        have f3 : (strOfNums L).size + x.size ≤ 9223372036854775807 := by omega
        clear hq hpl HED hE h34 h92 hesc hd hf2 hxs
        go_wp2_with (first
          | (go_at_call 95
             with_reducible refine (HBK.out _).mono ?_
             rintro e v0 ⟨rfl, hb0⟩
             have HB0 := Aside0.mk (HBI.out.trans (hb0.mono HBI.out.size))
             have HI0 := Aside0.mk (iter_below HI.out hb0)
             clear hb0)
          | fail)
        go_roundw
        case rel => exact ⟨pos + wd, f2, L ++ bytesOf x, iter_alloc HI0.out _, by rw [← sadd, hxb], HR2, by simp; omega, ⟨HB0.out.alloc HB0.out.size _⟩⟩
        case measure => rw [iterPos_of (iter_alloc HI0.out _)]; exact HMM.out
    · have hnx := fun ty => Lib.run_next_end_at (P := Tryz.prog) wr w.heap.size s pos ty hit hp
      obtain rfl : L = U := by have := hR.out.1; rw [rns_end s fuel pos hp] at this; simpa [quoteF] using this
      have f1 : (strOfNums L).size + 1 ≤ 9223372036854775807 := by have := hR.out.2.2; rw [strOfNums_size]; omega
      clear hR
      go_wp2_with fail
      go_ret
      exact ⟨by rw [← sadd]; rfl, hB.out⟩
end Go.Proofs.YtpdinahdcedmkaaGreatDoor.Ext

