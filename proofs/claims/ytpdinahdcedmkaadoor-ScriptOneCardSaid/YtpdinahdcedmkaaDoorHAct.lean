import Derived.Test.YtpdinahdcedmkaaDoorMStep
import Derived.Test.YtpdinahdcedmkaaDoorMLines
import Derived.BigRegion
/- script.Act: the act of a line. -/
namespace Go.Proofs.YtpdinahdcedmkaaDoor.Ext
open Go.Proofs.YtpdinahdcedmkaaDoor.P
set_option linter.unusedVariables false
set_option linter.unusedSimpArgs false
open Go.RowKit Go.Proofs.YtpdinahdcedmkaaDoorW.PrintWords Go.Proofs.YtpdinahdcedmkaaDoorW.PrintLast Go.Proofs.YtpdinahdcedmkaaDoorW.PrintMore Go.Proofs.YtpdinahdcedmkaaDoor.Spec

/-- all letters' words, one behind the other -/
def putsS (nl : List ByteArray) (cs : List UInt8) (s : Act × List ByteArray) : Act × List ByteArray := cs.foldl (fun s c => putS nl ((c.toNat : Nat) : Int) s.2 s.1) s
/-- the act that a line's words say -/
def readS (nl : List ByteArray) (ws : List ByteArray) : Act := (putsS nl (rowOf (ExtQ.rowI (ws.headD ⟨#[]⟩))).2.data.toList ({ z42 with f0 := ExtQ.rowI (ws.headD ⟨#[]⟩) }, ws.tail)).1
/-- the act of a line, if there is one -/
def actS (p : Plan) (t : ByteArray) : Option Act :=
  match ExtQ.wordsS t with
  | none => none
  | some ws => if headedS p.f0 p.f1 p.f2 = true ∧ 1 ≤ ExtQ.rowI (ws.headD ⟨#[]⟩) ∧ mayS p.f2.length (readS p.f2 ws) = true ∧ lineB p.f2 (readS p.f2 ws) = t then some (readS p.f2 ws) else none
def ActP (r : Option Act) (w : World) (e : Ending) (w' : World) : Prop := (∃ cs, e = .returned (.tuple #[.agg cs.toArray, .int .i64 (if r.isSome = true then 0 else 270)]) ∧ k42.K w' (r.getD z42) cs) ∧ Below w.heap.size w w'
/-- what is known of an act while its letters are read -/
structure ReadOk (x : Act) : Prop where
  lo : 0 ≤ x.f8.f0 ∧ x.f8.f0 < 18446744073709551616
  hi : 0 ≤ x.f8.f1 ∧ x.f8.f1 < 18446744073709551616
  by_ : Bytes x.f10
  bd : ActBd x
theorem code_bd (n : ByteArray) : u32P (ExtP.codeS n).2.1 := by
  unfold ExtP.codeS
  split
  · exact ⟨by simp, by simp⟩
  · split
    · exact ⟨by simp, by simp⟩
    · rename_i c h
      have hm := List.mem_of_find?_eq_some h
      by_cases hk : ExtP.kindOf n = 1 ∨ ExtP.kindOf n = 2 ∨ ExtP.kindOf n = 3
      · exact ExtP.codesOf_bd _ hk _ hm
      · unfold ExtP.codesOf at hm
        rw [if_neg hk] at hm
        cases hm
theorem bytes_bytesOf (s : ByteArray) : Bytes (bytesOf s) := by
  intro x hx
  unfold bytesOf at hx
  rw [List.mem_map] at hx
  obtain ⟨b, _, rfl⟩ := hx
  have := b.toNat_lt
  omega
theorem num_bd (s : ByteArray) : 0 ≤ ExtQ.numOf s ∧ ExtQ.numOf s < 18446744073709551616 := numS_bd s
theorem u64z : 0 ≤ (0 : Int) ∧ (0 : Int) < 18446744073709551616 := ⟨by omega, by omega⟩
theorem u32z : u32P 0 := ⟨by omega, by omega⟩
theorem lv_map (l : List ByteArray) : lvBd (l.map lvOf) := by
  intro i
  rw [List.getD_eq_getElem?_getD, List.getElem?_map]
  cases l[i]? with
  | none => exact ⟨u32z, u32z⟩
  | some s => exact ⟨code_bd _, code_bd _⟩
theorem setsR_bd (l : List ByteArray) : lvBd (setsR l).2.1 ∧ u32P (setsR l).2.2 := by
  unfold setsR
  split
  · exact ⟨fun i => by exact ⟨u32z, u32z⟩, code_bd _⟩
  · exact ⟨lv_map _, u32z⟩
theorem putS_ok {nl : List ByteArray} {c : Int} {l : List ByteArray} {x : Act} (h : ReadOk x) : ReadOk (putS nl c l x).1 := by
  obtain ⟨h1, h2, h3, h4⟩ := h
  unfold putS
  by_cases c0 : c = 100
  · rw [if_pos c0]; exact ⟨h1, h2, h3, ⟨h4.lv, h4.xm⟩⟩
  rw [if_neg c0]
  by_cases c1 : c = 116
  · rw [if_pos c1]; exact ⟨h1, h2, h3, ⟨h4.lv, h4.xm⟩⟩
  rw [if_neg c1]
  by_cases c2 : c = 107
  · rw [if_pos c2]; exact ⟨h1, h2, h3, ⟨h4.lv, h4.xm⟩⟩
  rw [if_neg c2]
  by_cases c3 : c = 105
  · rw [if_pos c3]; exact ⟨h1, h2, h3, ⟨h4.lv, h4.xm⟩⟩
  rw [if_neg c3]
  by_cases c4 : c = 98
  · rw [if_pos c4]; exact ⟨h1, h2, h3, ⟨h4.lv, h4.xm⟩⟩
  rw [if_neg c4]
  by_cases c5 : c = 110
  · rw [if_pos c5]; exact ⟨h1, h2, h3, ⟨h4.lv, h4.xm⟩⟩
  rw [if_neg c5]
  by_cases c6 : c = 119
  · rw [if_pos c6]; exact ⟨h1, h2, (unhexS_bytes _).1, ⟨h4.lv, h4.xm⟩⟩
  rw [if_neg c6]
  by_cases c7 : c = 120
  · rw [if_pos c7]; exact ⟨h1, h2, (unhexS_bytes _).1, ⟨h4.lv, h4.xm⟩⟩
  rw [if_neg c7]
  by_cases c8 : c = 109
  · rw [if_pos c8]; exact ⟨h1, h2, bytes_bytesOf _, ⟨h4.lv, h4.xm⟩⟩
  rw [if_neg c8]
  by_cases c9 : c = 114
  · rw [if_pos c9]; exact ⟨num_bd _, num_bd _, h3, ⟨h4.lv, h4.xm⟩⟩
  rw [if_neg c9]
  by_cases c10 : c = 115
  · rw [if_pos c10]; exact ⟨h1, h2, h3, ⟨(setsR_bd l).1, (setsR_bd l).2⟩⟩
  rw [if_neg c10]
  exact ⟨h1, h2, h3, ⟨h4.lv, h4.xm⟩⟩
theorem putsS_ok {nl : List ByteArray} (cs : List UInt8) : ∀ {s : Act × List ByteArray}, ReadOk s.1 → ReadOk (putsS nl cs s).1 := by
  induction cs with
  | nil => intro s h; exact h
  | cons c t ih => intro s h; exact ih (putS_ok h)
theorem readS_ok (nl ws : List ByteArray) : ReadOk (readS nl ws) := putsS_ok _ ⟨u64z, u64z, fun x h => (by cases h), ⟨fun i => by exact ⟨u32z, u32z⟩, u32z⟩⟩
/-- an act that may be: its line may be said -/
theorem say_may {l : List ByteArray} {x : Act} (hl : ∀ i, (l.getD i ByteArray.empty).size ≤ 1048576) (hx : ReadOk x) (h : mayS l.length x = true) : SayOk l x := by
  have h' := h
  rw [may_eq] at h
  unfold mayR b4R at h
  simp only [Bool.and_eq_true, Bool.not_eq_true', Bool.or_eq_false_iff, decide_eq_false_iff_not] at h
  obtain ⟨_, hd, _, _, ⟨h1, h2, _, h3, h4, _⟩, _, hpk⟩ := h
  unfold mayS at h'
  simp only [Bool.and_eq_true] at h'
  obtain ⟨_, hk, hs, _⟩ := h'
  have hdl : x.f10.length ≤ 1048576 := by
    unfold dataR at hd
    split at hd
    · simp only [Bool.and_eq_true, decide_eq_true_eq] at hd; omega
    · split at hd
      · simp only [decide_eq_true_eq] at hd; omega
      · split at hd
        · simp only [Bool.and_eq_true, decide_eq_true_eq] at hd; omega
        · simp only [decide_eq_true_eq] at hd; omega
  have hpl : x.f11.length ≤ 1048576 := by
    simp only [Bool.or_eq_true, Bool.and_eq_true, decide_eq_true_eq] at hpk
    omega
  have hll : x.f4.length ≤ 1048576 := by
    unfold keyedS setsS hssS at hk
    split at hk
    · split at hk
      · simp only [Bool.and_eq_true, decide_eq_true_eq] at hk
        omega
      · split at hk
        · simp only [Bool.and_eq_true, decide_eq_true_eq] at hk
          omega
        · cases hk
    · simp only [Bool.and_eq_true, decide_eq_true_eq] at hk
      omega
  exact ⟨by omega, by omega, hl, hx.by_, hdl, hpl, hll, hx.lo, hx.hi, hx.bd⟩

theorem quoteP_ge (s : ByteArray) (pos : Nat) (h : pos < s.size) : (Utf8.decode s pos).2 ≤ (quoteP s (pos, (Utf8.decode s pos).1, (Utf8.decode s pos).2)).length := by
  have hlow := rune_low s pos h
  have hwl := width_le s pos h
  unfold quoteP
  split
  · rename_i hc
    have := (hlow (by simp only at hc; omega)).1
    simp; omega
  · split
    · rename_i hc
      simp only at hc
      rcases hc with hc | hc | hc
      · have := (hlow (by omega)).1; simp; omega
      · have := (hlow (by omega)).1; simp; omega
      · simp; omega
    · simp only [bytesOf, List.length_map, Array.length_toList]
      have : (s.extract pos (pos + (Utf8.decode s pos).2)).data.size = (Utf8.decode s pos).2 := by
        show (s.extract pos (pos + (Utf8.decode s pos).2)).size = _
        rw [ByteArray.size_extract]; omega
      omega
theorem quoteF_ge (s : ByteArray) : ∀ f pos, s.size ≤ pos + f → s.size - pos ≤ (quoteF s (rns s f pos)).length := by
  intro f
  induction f with
  | zero => intro pos h; omega
  | succ f ih =>
    intro pos h
    unfold rns
    split
    · rename_i hp
      have h1 := quoteP_ge s pos hp
      have h2 := Lib.decode_width_pos s pos hp
      have h3 := ih (pos + (Utf8.decode s pos).2) (by omega)
      unfold quoteF at h3 ⊢
      rw [List.flatMap_cons, List.length_append]
      omega
    · omega
theorem quoteS_ge (s : ByteArray) : s.size ≤ (quoteS s).size := by
  have := quoteF_ge s s.size 0 (by omega)
  unfold quoteS runesOf
  rw [strOfNums_size]
  simp only [List.length_append, List.length_cons, List.length_nil]
  omega
theorem unqS_size (q : ByteArray) : (unqS q).1.size ≤ q.size := by
  unfold unqS
  split
  · exact Nat.zero_le _
  · split
    · exact Nat.zero_le _
    · split
      · rename_i l _ h
        have := quoteS_ge (strOfNums l)
        rw [h] at this
        exact this
      · exact Nat.zero_le _
theorem puts_w (nl : List ByteArray) (l : List ByteArray) (x : Act) : putS nl (((119 : UInt8).toNat : Nat) : Int) l x = ({ x with f10 := (unhexS (l.headD ⟨#[]⟩)).1 }, l.tail) := by unfold putS; simp
theorem puts_m (nl : List ByteArray) (l : List ByteArray) (x : Act) : putS nl (((109 : UInt8).toNat : Nat) : Int) l x = ({ x with f10 := bytesOf (unqS (l.headD ⟨#[]⟩)).1 }, l.tail) := by unfold putS; simp
theorem puts_x (nl : List ByteArray) (l : List ByteArray) (x : Act) : putS nl (((120 : UInt8).toNat : Nat) : Int) l x = ({ x with f10 := (unhexS (l.headD ⟨#[]⟩)).1 }, l.tail) := by unfold putS; simp
theorem puts_b (nl : List ByteArray) (l : List ByteArray) (x : Act) : putS nl (((98 : UInt8).toNat : Nat) : Int) l x = ({ x with f9 := min (ExtQ.numOf (l.headD ⟨#[]⟩)) 2147483648 }, l.tail) := by unfold putS; simp
theorem puts_n (nl : List ByteArray) (l : List ByteArray) (x : Act) : putS nl (((110 : UInt8).toNat : Nat) : Int) l x = ({ x with f9 := min (ExtQ.numOf (l.headD ⟨#[]⟩)) 2147483648 }, l.tail) := by unfold putS; simp
theorem puts_s (nl : List ByteArray) (l : List ByteArray) (x : Act) : putS nl (((115 : UInt8).toNat : Nat) : Int) l x = ({ x with f3 := (setsR l).1, f4 := (setsR l).2.1, f5 := (setsR l).2.2 }, setsL l) := by unfold putS; simp
theorem puts_d (nl : List ByteArray) (l : List ByteArray) (x : Act) : putS nl (((100 : UInt8).toNat : Nat) : Int) l x = ({ x with f1 := ExtQ.nameI nl (l.headD ⟨#[]⟩) }, l.tail) := by unfold putS; simp
theorem puts_t (nl : List ByteArray) (l : List ByteArray) (x : Act) : putS nl (((116 : UInt8).toNat : Nat) : Int) l x = ({ x with f2 := ExtQ.nameI nl (l.headD ⟨#[]⟩) }, l.tail) := by unfold putS; simp
theorem puts_k (nl : List ByteArray) (l : List ByteArray) (x : Act) : putS nl (((107 : UInt8).toNat : Nat) : Int) l x = ({ x with f6 := min (ExtQ.numOf (l.headD ⟨#[]⟩)) 4294967295 }, l.tail) := by unfold putS; simp
theorem puts_i (nl : List ByteArray) (l : List ByteArray) (x : Act) : putS nl (((105 : UInt8).toNat : Nat) : Int) l x = ({ x with f7 := min (ExtQ.numOf (l.headD ⟨#[]⟩)) 4294967295 }, l.tail) := by unfold putS; simp
theorem puts_r (nl : List ByteArray) (l : List ByteArray) (x : Act) : putS nl (((114 : UInt8).toNat : Nat) : Int) l x = ({ x with f8 := ⟨ExtQ.numOf (l.headD ⟨#[]⟩), ExtQ.numOf (l.tail.headD ⟨#[]⟩)⟩ }, l.tail.tail) := by unfold putS; simp
theorem puts_p (nl : List ByteArray) (l : List ByteArray) (x : Act) : putS nl (((112 : UInt8).toNat : Nat) : Int) l x = ({ x with f11 := ExtQ.pickOf (l.headD ⟨#[]⟩) }, l.tail) := by unfold putS; simp
theorem step_any (p : Plan) (B2 : Option Addr) (d2 : Nat) (B3 : Option Addr) (d3 : Nat) (w W : World) (ab g : Nat) (l : List ByteArray) (x : Act) (u4 u11 u12 : Value) (h : AB p B2 d2 B3 d3 w W ab g l x u4 u11 u12) (hz : ∀ s ∈ l, s.size ≤ 1073741824) (hC : Kd.C Kd.string w B2 p.f2.length p.f2) (hc : p.f2.length ≤ d2) (hl : p.f2.length ≤ 1048576) (hn : ∀ i, (p.f2.getD i ByteArray.empty).size ≤ 17592186044416) (hT : Lib.Utf8Tabs 0 1 w) (c : UInt8) (hcl : c ∈ lets) :
    Calls Tryd.prog 30 #[.pointer (some ⟨g, 0, none⟩), .int .i32 ((c.toNat : Nat) : Int)] W (ValuePost p B2 d2 B3 d3 w W ab g ((c.toNat : Nat) : Int) (putS p.f2 ((c.toNat : Nat) : Int) l x)) := by
  have hq : (unqS (l.headD ⟨#[]⟩)).1.size ≤ 17592186044416 := Nat.le_trans (unqS_size _) (Nat.le_trans (headD_le hz) (by omega))
  unfold lets at hcl
  simp only [List.mem_cons, List.not_mem_nil, or_false] at hcl
  rcases hcl with rfl | rfl | rfl | rfl | rfl | rfl | rfl | rfl | rfl | rfl | rfl | rfl
  · rw [puts_w]
    exact step_w p B2 d2 B3 d3 w W ab g l x u4 u11 u12 h hz
  · rw [puts_m]
    exact step_m p B2 d2 B3 d3 w W ab g l x u4 u11 u12 h hz hq hT
  · rw [puts_x]
    exact step_x p B2 d2 B3 d3 w W ab g l x u4 u11 u12 h hz
  · rw [puts_b]
    exact step_b p B2 d2 B3 d3 w W ab g l x u4 u11 u12 h hz
  · rw [puts_n]
    exact step_n p B2 d2 B3 d3 w W ab g l x u4 u11 u12 h hz
  · rw [puts_s]
    exact step_s p B2 d2 B3 d3 w W ab g l x u4 u11 u12 h hz
  · rw [puts_d]
    exact step_d p B2 d2 B3 d3 w W ab g l x u4 u11 u12 h hz hC hc hl hn hT
  · rw [puts_t]
    exact step_t p B2 d2 B3 d3 w W ab g l x u4 u11 u12 h hz hC hc hl hn hT
  · rw [puts_k]
    exact step_k p B2 d2 B3 d3 w W ab g l x u4 u11 u12 h hz
  · rw [puts_i]
    exact step_i p B2 d2 B3 d3 w W ab g l x u4 u11 u12 h hz
  · rw [puts_r]
    exact step_r p B2 d2 B3 d3 w W ab g l x u4 u11 u12 h hz
  · rw [puts_p]
    exact step_p p B2 d2 B3 d3 w W ab g l x u4 u11 u12 h hz
theorem setsL_sub (l : List ByteArray) : ∀ s ∈ setsL l, s ∈ l := by
  unfold setsL
  split
  · intro s hs; exact List.mem_of_mem_tail (List.mem_of_mem_tail hs)
  · intro s hs; cases hs
theorem putS_sub (nl : List ByteArray) (c : Int) (l : List ByteArray) (x : Act) : ∀ s ∈ (putS nl c l x).2, s ∈ l := by
  intro s
  unfold putS
  by_cases c0 : c = 100
  · rw [if_pos c0]; exact List.mem_of_mem_tail
  rw [if_neg c0]
  by_cases c1 : c = 116
  · rw [if_pos c1]; exact List.mem_of_mem_tail
  rw [if_neg c1]
  by_cases c2 : c = 107
  · rw [if_pos c2]; exact List.mem_of_mem_tail
  rw [if_neg c2]
  by_cases c3 : c = 105
  · rw [if_pos c3]; exact List.mem_of_mem_tail
  rw [if_neg c3]
  by_cases c4 : c = 98
  · rw [if_pos c4]; exact List.mem_of_mem_tail
  rw [if_neg c4]
  by_cases c5 : c = 110
  · rw [if_pos c5]; exact List.mem_of_mem_tail
  rw [if_neg c5]
  by_cases c6 : c = 119
  · rw [if_pos c6]; exact List.mem_of_mem_tail
  rw [if_neg c6]
  by_cases c7 : c = 120
  · rw [if_pos c7]; exact List.mem_of_mem_tail
  rw [if_neg c7]
  by_cases c8 : c = 109
  · rw [if_pos c8]; exact List.mem_of_mem_tail
  rw [if_neg c8]
  by_cases c9 : c = 114
  · rw [if_pos c9]; exact fun h => List.mem_of_mem_tail (List.mem_of_mem_tail h)
  rw [if_neg c9]
  by_cases c10 : c = 115
  · rw [if_pos c10]; exact setsL_sub l s
  rw [if_neg c10]
  exact List.mem_of_mem_tail
end Go.Proofs.YtpdinahdcedmkaaDoor.Ext

