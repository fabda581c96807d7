import Derived.Test.YtpdinahdcedmkaaDoorHSetsV
import Derived.Test.YtpdinahdcedmkaaDoorHJoin
import Derived.Test.YtpdinahdcedmkaaDoorHAct
import Derived.Test.YtpdinahdcedmkaaDoorMPure
import Derived.Test.YtpdinahdcedmkaaDoorMLab
/- The names of parameters: each comes back from its code, and none has a blank, a quote or a slash. -/
namespace Go.Proofs.YtpdinahdcedmkaaDoor.Ext
open Go.Proofs.YtpdinahdcedmkaaDoor.P
set_option linter.unusedVariables false
set_option linter.unusedSimpArgs false
open Go.RowKit Go.Proofs.YtpdinahdcedmkaaDoorW.PrintWords Go.Proofs.YtpdinahdcedmkaaDoorW.PrintLast Go.Proofs.YtpdinahdcedmkaaDoorW.PrintMore Go.Proofs.YtpdinahdcedmkaaDoor.Spec

def okNm (k c : Int) : Bool :=
  ExtP.plainS (ExtP.nameS k c) && ((ExtP.kindOf (ExtP.nameS k c) == k) && (((ExtP.codesOf k).find? (ExtP.isName k (ExtP.nameS k c)) == some c) && ((ExtP.nameS k c).data.toList.all (fun b => decide (b ≠ 32 ∧ b ≠ 34 ∧ b ≠ 47)) && !(ExtP.nameS k c).data.toList.isEmpty)))
set_option maxRecDepth 100000 in
theorem names_all (k : Int) (h : k = 1 ∨ k = 2 ∨ k = 3) : ∀ c ∈ ExtP.codesOf k, okNm k c = true := by
  rcases h with rfl | rfl | rfl
  · decide +kernel
  · decide +kernel
  · decide +kernel
theorem nm_mem_low (k c : Int) (h0 : 0 ≤ c) (h1 : c < 25) (hk : known k c = true) : c ∈ ExtP.lowL k 25 := by
  unfold ExtP.lowL
  rw [List.mem_filter, List.mem_map]
  exact ⟨⟨c.toNat, by rw [List.mem_range]; omega, by show ((c.toNat : Nat) : Int) = c; omega⟩, hk⟩
theorem nm_mem_high (k f c : Int) (h0 : f ≤ c) (h1 : c < f + 64) (hk : known k c = true) : c ∈ ExtP.highL k f 64 := by
  unfold ExtP.highL
  rw [List.mem_filter, List.mem_map]
  exact ⟨⟨(c - f).toNat, by rw [List.mem_range]; omega, by show f + (((c - f).toNat : Nat) : Int) = c; omega⟩, hk⟩
theorem nm_ownFam {c f h x : Int} (e : ownFam c x = some (f, h)) : x ≤ c ∧ c < x + 64 := by
  unfold ownFam at e
  split at e
  · rename_i hh; omega
  · cases e
theorem nm_codes (k c : Int) (g0 : 0 ≤ c) (hk : known k c = true) : (k = 1 ∨ k = 2 ∨ k = 3) ∧ c ∈ ExtP.codesOf k := by
  have hk0 := hk
  unfold known at hk
  by_cases h1 : k = 1
  · subst h1
    rw [if_pos rfl] at hk
    refine ⟨.inl rfl, ?_⟩
    show c ∈ ExtP.codesL 1 4026531840
    unfold ExtP.codesL
    rw [List.mem_append]
    left
    refine nm_mem_low 1 c g0 ?_ hk0
    rcases Nat.lt_or_ge 16 c.toNat with h | h
    · unfold ots at hk
      rw [Spec.otsTab_big _ h] at hk
      exact absurd (show ((60 : Int) == 0) = true from hk) (by decide)
    · omega
  · rw [if_neg h1] at hk
    by_cases h2 : k = 2
    · subst h2
      rw [if_pos rfl] at hk
      refine ⟨.inr (.inl rfl), ?_⟩
      show c ∈ ExtP.codesL 2 4026531840
      unfold ExtP.codesL
      rw [List.mem_append]
      unfold lms at hk
      split at hk
      · rename_i f h e
        unfold lmsFam at e
        split at e
        · exact .inl (nm_mem_low 2 c g0 (by omega) hk0)
        · have := nm_ownFam e
          exact .inr (nm_mem_high 2 _ c this.1 this.2 hk0)
      · exact absurd hk (by decide)
    · rw [if_neg h2] at hk
      by_cases h3 : k = 3
      · subst h3
        rw [if_pos rfl] at hk
        refine ⟨.inr (.inr rfl), ?_⟩
        show c ∈ ExtP.codesL 3 4043309056
        unfold ExtP.codesL
        rw [List.mem_append]
        unfold xms at hk
        split at hk
        · rename_i f h e
          unfold xmsFam at e
          split at e
          · exact .inl (nm_mem_low 3 c g0 (by omega) hk0)
          · split at e
            · exact .inl (nm_mem_low 3 c g0 (by omega) hk0)
            · have := nm_ownFam e
              exact .inr (nm_mem_high 3 _ c this.1 this.2 hk0)
        · exact absurd hk (by decide)
      · rw [if_neg h3] at hk; exact absurd hk (by decide)
/-- what is known of a name of a known code -/
theorem nm_back (k c : Int) (g0 : 0 ≤ c) (hk : known k c = true) : (ExtP.codeS (ExtP.nameS k c)).2.1 = c ∧ (∀ b ∈ (ExtP.nameS k c).data.toList, b ≠ 32 ∧ b ≠ 34 ∧ b ≠ 47) ∧ (ExtP.nameS k c).data.toList ≠ [] := by
  obtain ⟨h3, hm⟩ := nm_codes k c g0 hk
  have h := names_all k h3 c hm
  unfold okNm at h
  simp only [Bool.and_eq_true, beq_iff_eq, List.all_eq_true, decide_eq_true_eq, Bool.not_eq_true', List.isEmpty_eq_false_iff] at h
  obtain ⟨a1, a2, a3, a4, a5⟩ := h
  refine ⟨?_, a4, a5⟩
  unfold ExtP.codeS
  rw [if_neg (by rw [a1]; simp), a2, a3]
/-- what fits is known -/
theorem fit_known (a b : Int) (ha : 0 ≤ a) (hb : 0 ≤ b) (h : lvFit a b = true) : known 2 a = true ∧ known 1 b = true := by
  unfold lvFit ExtP.fitS at h
  split at h
  · rename_i h1
    split at h
    · rename_i h2
      constructor
      · show ((lms a).2 == 0) = true
        unfold ExtP.isLmsS at h1
        split at h1
        · rename_i h3
          cases e : lmsFam a with
          | some fh =>
            unfold lms
            rw [e]
            rfl
          | none =>
            have h9 : (lms a).1 = LmsR.zero := by unfold lms; rw [e]
            rw [h9] at h3
            exact absurd h3 (by decide +kernel)
        · cases h1
      · show ((ots b).2 == 0) = true
        unfold ExtP.isOtsS at h2
        split at h2
        · rename_i h3
          rcases Nat.lt_or_ge 16 b.toNat with h | h
          · have h9 : (ots b).1 = OtsR.zero := by unfold ots; rw [Spec.otsTab_big _ h]
            rw [h9] at h3
            exact absurd h3 (by decide +kernel)
          · have key : ∀ n : Fin 17, (ots (ots (n.val : Int)).1.code).2 = 0 → ((ots (n.val : Int)).2 == 0) = true := by decide +kernel
            obtain ⟨n, rfl⟩ := Int.eq_ofNat_of_zero_le hb
            exact key ⟨n, by omega⟩ h3
        · cases h2
    · cases h
  · cases h
/-- a level's words -/
def lvB (v : Lv) : ByteArray := (ExtP.nameS 2 v.f0 ++ ⟨#[47]⟩) ++ ExtP.nameS 1 v.f1
theorem lvB_data (v : Lv) : (lvB v).data.toList = (ExtP.nameS 2 v.f0).data.toList ++ 47 :: (ExtP.nameS 1 v.f1).data.toList := by
  unfold lvB
  rw [ByteArray.data_append, ByteArray.data_append, Array.toList_append, Array.toList_append, List.append_assoc]
  rfl
theorem idx_at : ∀ (a b : List UInt8), (∀ x ∈ a, x ≠ 47) → Lib.indexByte (a ++ 47 :: b) 47 = (a.length : Int)
  | [], b, _ => by simp [Lib.indexByte]
  | x :: t, b, h => by
    have h1 := idx_at t b (fun y hy => h y (by simp [hy]))
    have h2 := h x (by simp)
    rw [List.cons_append, Lib.indexByte, h1, if_neg (by simpa using h2), if_neg (by simp)]
    simp
theorem cut_1 (a b : List UInt8) (n : Nat) (h : n = a.length) : ((a ++ 47 :: b).take n).drop 0 = a := by subst h; simp
theorem cut_2 (a b : List UInt8) (n : Nat) (h : n = a.length) : (a ++ 47 :: b).drop (n + 1) = b := by subst h; simp [List.drop_append]
theorem lvOf_back (v : Lv) (h1 : 0 ≤ v.f0) (h2 : 0 ≤ v.f1) (k1 : known 2 v.f0 = true) (k2 : known 1 v.f1 = true) : lvOf (lvB v) = v := by
  have n1 := nm_back 2 v.f0 h1 k1
  have n2 := nm_back 1 v.f1 h2 k2
  have hi : slashI (lvB v) = ((ExtP.nameS 2 v.f0).size : Int) := by
    unfold slashI
    rw [lvB_data, idx_at _ _ (fun x hx => (n1.2.1 x hx).2.2)]
    rw [Array.length_toList]
    rfl
  have hs : slashS (lvB v) = (ExtP.nameS 2 v.f0, ExtP.nameS 1 v.f1) := by
    unfold slashS
    rw [if_pos (by rw [hi]; omega), hi]
    have hl : (ExtP.nameS 2 v.f0).data.toList.length = (ExtP.nameS 2 v.f0).size := by rw [Array.length_toList]; rfl
    have hl2 : (lvB v).data.toList.length = (lvB v).size := by rw [Array.length_toList]; rfl
    refine Prod.ext ?_ ?_
    · apply ByteArray.ext
      rw [← Array.toList_inj, extract_list, lvB_data]
      exact cut_1 _ _ _ (by rw [Int.toNat_natCast, hl])
    · apply ByteArray.ext
      rw [← Array.toList_inj, extract_list, ← hl2, List.take_length, lvB_data]
      exact cut_2 _ _ _ (by rw [Int.toNat_natCast, hl])
  unfold lvOf
  rw [hs, n1.1, n2.1]
theorem good_lvB (v : Lv) (h1 : 0 ≤ v.f0) (h2 : 0 ≤ v.f1) (k1 : known 2 v.f0 = true) (k2 : known 1 v.f1 = true) : GoodW (lvB v).data.toList := by
  have n1 := nm_back 2 v.f0 h1 k1
  have n2 := nm_back 1 v.f1 h2 k2
  rw [lvB_data]
  refine good_plain ?_ (by simp)
  intro b hb
  rcases List.mem_append.1 hb with hb | hb
  · have := n1.2.1 b hb; exact ⟨this.1, this.2.1⟩
  · rcases List.mem_cons.1 hb with rfl | hb
    · decide
    · have := n2.2.1 b hb; exact ⟨this.1, this.2.1⟩
end Go.Proofs.YtpdinahdcedmkaaDoor.Ext
/- An act that may be comes back from the words of its line. -/
namespace Go.Proofs.YtpdinahdcedmkaaDoor.Ext
open Go.Proofs.YtpdinahdcedmkaaDoor.P
set_option linter.unusedVariables false
set_option linter.unusedSimpArgs false
open Go.RowKit Go.Proofs.YtpdinahdcedmkaaDoorW.PrintWords Go.Proofs.YtpdinahdcedmkaaDoorW.PrintLast Go.Proofs.YtpdinahdcedmkaaDoorW.PrintMore Go.Proofs.YtpdinahdcedmkaaDoor.Spec

theorem num_back (n : Int) (h0 : 0 ≤ n) (h1 : n < 18446744073709551616) : ExtQ.numOf (decS (IntKind.u64.wrap n)) = n := by
  have hw : IntKind.u64.wrap n = n := by rw [IntKind.wrap_u64]; omega
  unfold ExtQ.numOf decS
  rw [hw, num_dec n.toNat (by omega)]
  show ((n.toNat : Nat) : Int) = n
  omega
theorem num_back0 (n : Int) (h0 : 0 ≤ n) (h1 : n < 18446744073709551616) : ExtQ.numOf (decS n) = n := by
  have := num_back n h0 h1
  rwa [show IntKind.u64.wrap n = n by rw [IntKind.wrap_u64]; omega] at this
theorem hex_back (l : List Int) (h : Bytes l) : (unhexS (strOfNums (hexS l))).1 = l := by rw [unhex_hex l h]
theorem bytesOf_strOfNums (l : List Int) (h : Bytes l) : bytesOf (strOfNums l) = l := by
  unfold bytesOf
  rw [strOfNums_data, List.map_map]
  conv => rhs; rw [← List.map_id l]
  apply List.map_congr_left
  intro x hx
  have := h x hx
  show ((UInt8.ofNat x.toNat).toNat : Int) = x
  rw [UInt8.toNat_ofNat']
  omega
theorem msg_back (l : List Int) (h : Bytes l) : bytesOf (unqS (quoteS (strOfNums l))).1 = l := by rw [unq_quote]; exact bytesOf_strOfNums l h
theorem quoteS_inj {a b : ByteArray} (h : quoteS a = quoteS b) : a = b := by
  have h1 := unq_quote a
  rw [h, unq_quote b] at h1
  exact (congrArg Prod.fst h1).symm
theorem names_uniq {nl : List ByteArray} (h : namesOk nl nl.length = true) (i j : Nat) (hi : i < nl.length) (hj : j < i) : nl.getD j ByteArray.empty ≠ nl.getD i ByteArray.empty := by
  unfold namesOk at h
  rw [List.all_eq_true] at h
  have h1 := h i (by rw [List.mem_range]; exact hi)
  simp only [Bool.and_eq_true, Bool.not_eq_true'] at h1
  have h2 := h1.2
  unfold hasStr at h2
  rw [decide_eq_false_iff_not] at h2
  intro he
  apply h2
  unfold idxS
  apply List.findIdx_lt_length_of_exists
  refine ⟨nl.getD j ByteArray.empty, ?_, decide_eq_true he⟩
  rw [List.getD_eq_getElem?_getD, List.getElem?_eq_getElem (show j < nl.length by omega)]
  exact List.mem_iff_getElem.2 ⟨j, by rw [List.length_take]; omega, by rw [List.getElem_take]; rfl⟩
theorem name_back (nl : List ByteArray) (h : namesOk nl nl.length = true) (d : Int) (h0 : 0 ≤ d) (h1 : d < (nl.length : Int)) : ExtQ.nameI nl (quoteS (nl.getD d.toNat ByteArray.empty)) = d := by
  have hi : ExtQ.nameIx nl (quoteS (nl.getD d.toNat ByteArray.empty)) = d.toNat :=
    ExtQ.nameIx_hit nl _ d.toNat (by omega) rfl (fun j hj he => names_uniq h d.toNat j (by omega) hj (quoteS_inj he))
  unfold ExtQ.nameI
  rw [hi, if_pos (by omega)]
  omega
theorem marks_ascii (s : ByteArray) (h : ∀ i, i < s.size → (s.data.toList.getD i 0).toNat < 128) : ∀ f pos, s.size ≤ pos + f → ExtQ.marksOf (rns s f pos) = (s.data.toList.drop pos).map (fun b => decide (b = 43)) := by
  have hl : s.data.toList.length = s.size := by rw [Array.length_toList]; rfl
  intro f
  induction f with
  | zero => intro pos hf; rw [List.drop_of_length_le (by omega)]; rfl
  | succ f ih =>
    intro pos hf
    unfold rns
    by_cases hp : pos < s.size
    · have h0 := h pos hp
      have hd : Utf8.decode s pos = ((s.data.toList.getD pos 0).toNat, 1) := by
        rw [Lib.decode_N]
        exact Lib.decodeN_ascii _ _ _ _ _ h0
      rw [if_pos hp, hd]
      have hc : s.data.toList.drop pos = s.data.toList.getD pos 0 :: s.data.toList.drop (pos + 1) := by
        rw [List.drop_eq_getElem_cons (by omega), List.getD_eq_getElem?_getD, List.getElem?_eq_getElem (by omega)]
        rfl
      rw [hc, List.map_cons, ← ih (pos + 1) (by omega)]
      show decide ((s.data.toList.getD pos 0).toNat = 43) :: _ = _
      congr 1
      rw [decide_eq_decide]
      constructor
      · intro e
        exact UInt8.toNat_inj.1 e
      · intro e
        rw [e]
        rfl
    · rw [if_neg hp, List.drop_of_length_le (by omega)]
      rfl
theorem pick_back (l : List Bool) : ExtQ.pickOf (pickS l) = l := by
  cases l with
  | nil => decide +kernel
  | cons b t =>
    have ht : ExtQ.trimDot (pickS (b :: t)) = pickS (b :: t) := by
      unfold ExtQ.trimDot pickS pickL
      cases b <;> rfl
    unfold ExtQ.pickOf runesOf
    rw [ht]
    have hd : (pickS (b :: t)).data.toList = (b :: t).map markB := rfl
    rw [marks_ascii _ _ _ 0 (by omega), hd, List.drop_zero, List.map_map]
    · conv => rhs; rw [← List.map_id (b :: t)]
      apply List.map_congr_left
      intro x _
      cases x <;> rfl
    · intro i hi
      rw [hd, List.getD_eq_getElem?_getD, List.getElem?_map]
      cases (b :: t)[i]? with
      | none => decide
      | some x => cases x <;> decide
theorem row_back : ∀ n : Fin 18, 1 ≤ n.val → ExtQ.rowI (rowOf (n.val : Int)).1 = (n.val : Int) := by decide +kernel
theorem act_ext {x y : Act} (h0 : x.f0 = y.f0) (h1 : x.f1 = y.f1) (h2 : x.f2 = y.f2) (h3 : x.f3 = y.f3) (h4 : x.f4 = y.f4) (h5 : x.f5 = y.f5) (h6 : x.f6 = y.f6) (h7 : x.f7 = y.f7) (h8 : x.f8 = y.f8) (h9 : x.f9 = y.f9) (h10 : x.f10 = y.f10) (h11 : x.f11 = y.f11) : x = y := by
  cases x; cases y
  simp only at h0 h1 h2 h3 h4 h5 h6 h7 h8 h9 h10 h11
  subst h0 h1 h2 h3 h4 h5 h6 h7 h8 h9 h10 h11
  rfl
def hssB : ByteArray := ⟨#[104, 115, 115]⟩
/-- the words that a line has of a letter -/
def wordsOf (l : List ByteArray) (x : Act) (c : Int) : List ByteArray :=
  if c = 114 then [decS x.f8.f0, decS x.f8.f1] else if c = 115 then (if x.f3 = 2 then [xmssB, ExtP.nameS 3 x.f5] else hssB :: x.f4.map lvB) else [sayB l x c]
/-- a line's words -/
def lineW (l : List ByteArray) (x : Act) : List ByteArray := (rowOf x.f0).1 :: (rowOf x.f0).2.data.toList.flatMap fun c => wordsOf l x ((c.toNat : Nat) : Int)
/-- what is known of an act that may be -/
structure Fits (nl : List ByteArray) (x : Act) : Prop where
  d : ExtQ.nameI nl (quoteS (nl.getD x.f1.toNat ByteArray.empty)) = x.f1
  t : ExtQ.nameI nl (quoteS (nl.getD x.f2.toNat ByteArray.empty)) = x.f2
  k : min (ExtQ.numOf (decS (IntKind.u64.wrap x.f6))) 4294967295 = x.f6
  i : min (ExtQ.numOf (decS (IntKind.u64.wrap x.f7))) 4294967295 = x.f7
  n : min (ExtQ.numOf (decS (IntKind.u64.wrap x.f9))) 2147483648 = x.f9
  w : (unhexS (strOfNums (hexS x.f10))).1 = x.f10
  m : bytesOf (unqS (quoteS (strOfNums x.f10))).1 = x.f10
  r : (⟨ExtQ.numOf (decS x.f8.f0), ExtQ.numOf (decS x.f8.f1)⟩ : S38) = x.f8
  p : ExtQ.pickOf (pickS x.f11) = x.f11
  s : hasS x.f0 115 = true → ((setsR (wordsOf nl x 115)).1 = x.f3 ∧ (setsR (wordsOf nl x 115)).2.1 = x.f4 ∧ (setsR (wordsOf nl x 115)).2.2 = x.f5)
  zd : hasS x.f0 100 = false → x.f1 = 0
  zt : hasS x.f0 116 = false → x.f2 = 0
  zk : hasS x.f0 107 = false → x.f6 = 0
  zi : hasS x.f0 105 = false → x.f7 = 0
  zr : hasS x.f0 114 = false → x.f8 = ⟨0, 0⟩
  zn : hasS x.f0 98 = false → hasS x.f0 110 = false → x.f9 = 0
  zw : hasS x.f0 119 = false → hasS x.f0 109 = false → hasS x.f0 120 = false → x.f10 = []
  zs : hasS x.f0 115 = false → x.f3 = 0 ∧ x.f4 = [] ∧ x.f5 = 0
  zp : hasS x.f0 112 = false → x.f11 = []
theorem puts_nil (nl : List ByteArray) (s : Act × List ByteArray) : putsS nl [] s = s := rfl
theorem puts_cons (nl : List ByteArray) (c : UInt8) (cs : List UInt8) (a : Act) (l : List ByteArray) : putsS nl (c :: cs) (a, l) = putsS nl cs (putS nl ((c.toNat : Nat) : Int) l a) := rfl
theorem back_1 (nl : List ByteArray) (x : Act) (F : Fits nl x) (hf : x.f0 = 1) : readS nl (lineW nl x) = x := by
  have e1 : (rowOf x.f0).2.data.toList = [100, 119] := by rw [hf]; decide +kernel
  have e2 : ExtQ.rowI (rowOf x.f0).1 = 1 := by rw [hf]; decide +kernel
  have e3 : lineW nl x = (rowOf x.f0).1 :: ((quoteS (nl.getD x.f1.toNat ByteArray.empty)) :: (strOfNums (hexS x.f10)) :: []) := by
    unfold lineW
    rw [e1]
    simp only [List.flatMap_cons, List.flatMap_nil]
    simp [wordsOf, sayB]
  rw [e3]
  unfold readS
  rw [List.headD_cons, List.tail_cons, e2]
  have e4 : (rowOf (1 : Int)).2.data.toList = [100, 119] := by decide +kernel
  rw [e4]
  simp only [puts_cons, puts_nil, puts_d, puts_w, List.headD_cons, List.tail_cons]
  exact (act_ext (hf)
    (F.d.symm)
    (F.zt (by rw [hf]; decide +kernel))
    ((F.zs (by rw [hf]; decide +kernel)).1)
    ((F.zs (by rw [hf]; decide +kernel)).2.1)
    ((F.zs (by rw [hf]; decide +kernel)).2.2)
    (F.zk (by rw [hf]; decide +kernel))
    (F.zi (by rw [hf]; decide +kernel))
    (F.zr (by rw [hf]; decide +kernel))
    (F.zn (by rw [hf]; decide +kernel) (by rw [hf]; decide +kernel))
    (F.w.symm)
    (F.zp (by rw [hf]; decide +kernel))).symm
theorem back_2 (nl : List ByteArray) (x : Act) (F : Fits nl x) (hf : x.f0 = 2) : readS nl (lineW nl x) = x := by
  have e1 : (rowOf x.f0).2.data.toList = [100, 115] := by rw [hf]; decide +kernel
  have e2 : ExtQ.rowI (rowOf x.f0).1 = 2 := by rw [hf]; decide +kernel
  have e3 : lineW nl x = (rowOf x.f0).1 :: ((quoteS (nl.getD x.f1.toNat ByteArray.empty)) :: wordsOf nl x 115) := by
    unfold lineW
    rw [e1]
    simp only [List.flatMap_cons, List.flatMap_nil]
    simp [wordsOf, sayB]
  rw [e3]
  unfold readS
  rw [List.headD_cons, List.tail_cons, e2]
  have e4 : (rowOf (2 : Int)).2.data.toList = [100, 115] := by decide +kernel
  rw [e4]
  simp only [puts_cons, puts_nil, puts_d, puts_s, List.headD_cons, List.tail_cons]
  exact (act_ext (hf)
    (F.d.symm)
    (F.zt (by rw [hf]; decide +kernel))
    ((F.s (by rw [hf]; decide +kernel)).1.symm)
    ((F.s (by rw [hf]; decide +kernel)).2.1.symm)
    ((F.s (by rw [hf]; decide +kernel)).2.2.symm)
    (F.zk (by rw [hf]; decide +kernel))
    (F.zi (by rw [hf]; decide +kernel))
    (F.zr (by rw [hf]; decide +kernel))
    (F.zn (by rw [hf]; decide +kernel) (by rw [hf]; decide +kernel))
    (F.zw (by rw [hf]; decide +kernel) (by rw [hf]; decide +kernel) (by rw [hf]; decide +kernel))
    (F.zp (by rw [hf]; decide +kernel))).symm
theorem back_3 (nl : List ByteArray) (x : Act) (F : Fits nl x) (hf : x.f0 = 3) : readS nl (lineW nl x) = x := by
  have e1 : (rowOf x.f0).2.data.toList = [100, 107, 109] := by rw [hf]; decide +kernel
  have e2 : ExtQ.rowI (rowOf x.f0).1 = 3 := by rw [hf]; decide +kernel
  have e3 : lineW nl x = (rowOf x.f0).1 :: ((quoteS (nl.getD x.f1.toNat ByteArray.empty)) :: (decS (IntKind.u64.wrap x.f6)) :: (quoteS (strOfNums x.f10)) :: []) := by
    unfold lineW
    rw [e1]
    simp only [List.flatMap_cons, List.flatMap_nil]
    simp [wordsOf, sayB]
  rw [e3]
  unfold readS
  rw [List.headD_cons, List.tail_cons, e2]
  have e4 : (rowOf (3 : Int)).2.data.toList = [100, 107, 109] := by decide +kernel
  rw [e4]
  simp only [puts_cons, puts_nil, puts_d, puts_k, puts_m, List.headD_cons, List.tail_cons]
  exact (act_ext (hf)
    (F.d.symm)
    (F.zt (by rw [hf]; decide +kernel))
    ((F.zs (by rw [hf]; decide +kernel)).1)
    ((F.zs (by rw [hf]; decide +kernel)).2.1)
    ((F.zs (by rw [hf]; decide +kernel)).2.2)
    (F.k.symm)
    (F.zi (by rw [hf]; decide +kernel))
    (F.zr (by rw [hf]; decide +kernel))
    (F.zn (by rw [hf]; decide +kernel) (by rw [hf]; decide +kernel))
    (F.m.symm)
    (F.zp (by rw [hf]; decide +kernel))).symm
theorem back_4 (nl : List ByteArray) (x : Act) (F : Fits nl x) (hf : x.f0 = 4) : readS nl (lineW nl x) = x := by
  have e1 : (rowOf x.f0).2.data.toList = [100, 107, 116, 114] := by rw [hf]; decide +kernel
  have e2 : ExtQ.rowI (rowOf x.f0).1 = 4 := by rw [hf]; decide +kernel
  have e3 : lineW nl x = (rowOf x.f0).1 :: ((quoteS (nl.getD x.f1.toNat ByteArray.empty)) :: (decS (IntKind.u64.wrap x.f6)) :: (quoteS (nl.getD x.f2.toNat ByteArray.empty)) :: (decS x.f8.f0) :: (decS x.f8.f1) :: []) := by
    unfold lineW
    rw [e1]
    simp only [List.flatMap_cons, List.flatMap_nil]
    simp [wordsOf, sayB]
  rw [e3]
  unfold readS
  rw [List.headD_cons, List.tail_cons, e2]
  have e4 : (rowOf (4 : Int)).2.data.toList = [100, 107, 116, 114] := by decide +kernel
  rw [e4]
  simp only [puts_cons, puts_nil, puts_d, puts_k, puts_r, puts_t, List.headD_cons, List.tail_cons]
  exact (act_ext (hf)
    (F.d.symm)
    (F.t.symm)
    ((F.zs (by rw [hf]; decide +kernel)).1)
    ((F.zs (by rw [hf]; decide +kernel)).2.1)
    ((F.zs (by rw [hf]; decide +kernel)).2.2)
    (F.k.symm)
    (F.zi (by rw [hf]; decide +kernel))
    (F.r.symm)
    (F.zn (by rw [hf]; decide +kernel) (by rw [hf]; decide +kernel))
    (F.zw (by rw [hf]; decide +kernel) (by rw [hf]; decide +kernel) (by rw [hf]; decide +kernel))
    (F.zp (by rw [hf]; decide +kernel))).symm
theorem back_5 (nl : List ByteArray) (x : Act) (F : Fits nl x) (hf : x.f0 = 5) : readS nl (lineW nl x) = x := by
  have e1 : (rowOf x.f0).2.data.toList = [100, 107, 116, 98] := by rw [hf]; decide +kernel
  have e2 : ExtQ.rowI (rowOf x.f0).1 = 5 := by rw [hf]; decide +kernel
  have e3 : lineW nl x = (rowOf x.f0).1 :: ((quoteS (nl.getD x.f1.toNat ByteArray.empty)) :: (decS (IntKind.u64.wrap x.f6)) :: (quoteS (nl.getD x.f2.toNat ByteArray.empty)) :: (decS (IntKind.u64.wrap x.f9)) :: []) := by
    unfold lineW
    rw [e1]
    simp only [List.flatMap_cons, List.flatMap_nil]
    simp [wordsOf, sayB]
  rw [e3]
  unfold readS
  rw [List.headD_cons, List.tail_cons, e2]
  have e4 : (rowOf (5 : Int)).2.data.toList = [100, 107, 116, 98] := by decide +kernel
  rw [e4]
  simp only [puts_cons, puts_nil, puts_b, puts_d, puts_k, puts_t, List.headD_cons, List.tail_cons]
  exact (act_ext (hf)
    (F.d.symm)
    (F.t.symm)
    ((F.zs (by rw [hf]; decide +kernel)).1)
    ((F.zs (by rw [hf]; decide +kernel)).2.1)
    ((F.zs (by rw [hf]; decide +kernel)).2.2)
    (F.k.symm)
    (F.zi (by rw [hf]; decide +kernel))
    (F.zr (by rw [hf]; decide +kernel))
    (F.n.symm)
    (F.zw (by rw [hf]; decide +kernel) (by rw [hf]; decide +kernel) (by rw [hf]; decide +kernel))
    (F.zp (by rw [hf]; decide +kernel))).symm
theorem back_6 (nl : List ByteArray) (x : Act) (F : Fits nl x) (hf : x.f0 = 6) : readS nl (lineW nl x) = x := by
  have e1 : (rowOf x.f0).2.data.toList = [100, 105] := by rw [hf]; decide +kernel
  have e2 : ExtQ.rowI (rowOf x.f0).1 = 6 := by rw [hf]; decide +kernel
  have e3 : lineW nl x = (rowOf x.f0).1 :: ((quoteS (nl.getD x.f1.toNat ByteArray.empty)) :: (decS (IntKind.u64.wrap x.f7)) :: []) := by
    unfold lineW
    rw [e1]
    simp only [List.flatMap_cons, List.flatMap_nil]
    simp [wordsOf, sayB]
  rw [e3]
  unfold readS
  rw [List.headD_cons, List.tail_cons, e2]
  have e4 : (rowOf (6 : Int)).2.data.toList = [100, 105] := by decide +kernel
  rw [e4]
  simp only [puts_cons, puts_nil, puts_d, puts_i, List.headD_cons, List.tail_cons]
  exact (act_ext (hf)
    (F.d.symm)
    (F.zt (by rw [hf]; decide +kernel))
    ((F.zs (by rw [hf]; decide +kernel)).1)
    ((F.zs (by rw [hf]; decide +kernel)).2.1)
    ((F.zs (by rw [hf]; decide +kernel)).2.2)
    (F.zk (by rw [hf]; decide +kernel))
    (F.i.symm)
    (F.zr (by rw [hf]; decide +kernel))
    (F.zn (by rw [hf]; decide +kernel) (by rw [hf]; decide +kernel))
    (F.zw (by rw [hf]; decide +kernel) (by rw [hf]; decide +kernel) (by rw [hf]; decide +kernel))
    (F.zp (by rw [hf]; decide +kernel))).symm
theorem back_7 (nl : List ByteArray) (x : Act) (F : Fits nl x) (hf : x.f0 = 7) : readS nl (lineW nl x) = x := by
  have e1 : (rowOf x.f0).2.data.toList = [100, 105] := by rw [hf]; decide +kernel
  have e2 : ExtQ.rowI (rowOf x.f0).1 = 7 := by rw [hf]; decide +kernel
  have e3 : lineW nl x = (rowOf x.f0).1 :: ((quoteS (nl.getD x.f1.toNat ByteArray.empty)) :: (decS (IntKind.u64.wrap x.f7)) :: []) := by
    unfold lineW
    rw [e1]
    simp only [List.flatMap_cons, List.flatMap_nil]
    simp [wordsOf, sayB]
  rw [e3]
  unfold readS
  rw [List.headD_cons, List.tail_cons, e2]
  have e4 : (rowOf (7 : Int)).2.data.toList = [100, 105] := by decide +kernel
  rw [e4]
  simp only [puts_cons, puts_nil, puts_d, puts_i, List.headD_cons, List.tail_cons]
  exact (act_ext (hf)
    (F.d.symm)
    (F.zt (by rw [hf]; decide +kernel))
    ((F.zs (by rw [hf]; decide +kernel)).1)
    ((F.zs (by rw [hf]; decide +kernel)).2.1)
    ((F.zs (by rw [hf]; decide +kernel)).2.2)
    (F.zk (by rw [hf]; decide +kernel))
    (F.i.symm)
    (F.zr (by rw [hf]; decide +kernel))
    (F.zn (by rw [hf]; decide +kernel) (by rw [hf]; decide +kernel))
    (F.zw (by rw [hf]; decide +kernel) (by rw [hf]; decide +kernel) (by rw [hf]; decide +kernel))
    (F.zp (by rw [hf]; decide +kernel))).symm
theorem back_8 (nl : List ByteArray) (x : Act) (F : Fits nl x) (hf : x.f0 = 8) : readS nl (lineW nl x) = x := by
  have e1 : (rowOf x.f0).2.data.toList = [100, 105] := by rw [hf]; decide +kernel
  have e2 : ExtQ.rowI (rowOf x.f0).1 = 8 := by rw [hf]; decide +kernel
  have e3 : lineW nl x = (rowOf x.f0).1 :: ((quoteS (nl.getD x.f1.toNat ByteArray.empty)) :: (decS (IntKind.u64.wrap x.f7)) :: []) := by
    unfold lineW
    rw [e1]
    simp only [List.flatMap_cons, List.flatMap_nil]
    simp [wordsOf, sayB]
  rw [e3]
  unfold readS
  rw [List.headD_cons, List.tail_cons, e2]
  have e4 : (rowOf (8 : Int)).2.data.toList = [100, 105] := by decide +kernel
  rw [e4]
  simp only [puts_cons, puts_nil, puts_d, puts_i, List.headD_cons, List.tail_cons]
  exact (act_ext (hf)
    (F.d.symm)
    (F.zt (by rw [hf]; decide +kernel))
    ((F.zs (by rw [hf]; decide +kernel)).1)
    ((F.zs (by rw [hf]; decide +kernel)).2.1)
    ((F.zs (by rw [hf]; decide +kernel)).2.2)
    (F.zk (by rw [hf]; decide +kernel))
    (F.i.symm)
    (F.zr (by rw [hf]; decide +kernel))
    (F.zn (by rw [hf]; decide +kernel) (by rw [hf]; decide +kernel))
    (F.zw (by rw [hf]; decide +kernel) (by rw [hf]; decide +kernel) (by rw [hf]; decide +kernel))
    (F.zp (by rw [hf]; decide +kernel))).symm
theorem back_9 (nl : List ByteArray) (x : Act) (F : Fits nl x) (hf : x.f0 = 9) : readS nl (lineW nl x) = x := by
  have e1 : (rowOf x.f0).2.data.toList = [100, 107] := by rw [hf]; decide +kernel
  have e2 : ExtQ.rowI (rowOf x.f0).1 = 9 := by rw [hf]; decide +kernel
  have e3 : lineW nl x = (rowOf x.f0).1 :: ((quoteS (nl.getD x.f1.toNat ByteArray.empty)) :: (decS (IntKind.u64.wrap x.f6)) :: []) := by
    unfold lineW
    rw [e1]
    simp only [List.flatMap_cons, List.flatMap_nil]
    simp [wordsOf, sayB]
  rw [e3]
  unfold readS
  rw [List.headD_cons, List.tail_cons, e2]
  have e4 : (rowOf (9 : Int)).2.data.toList = [100, 107] := by decide +kernel
  rw [e4]
  simp only [puts_cons, puts_nil, puts_d, puts_k, List.headD_cons, List.tail_cons]
  exact (act_ext (hf)
    (F.d.symm)
    (F.zt (by rw [hf]; decide +kernel))
    ((F.zs (by rw [hf]; decide +kernel)).1)
    ((F.zs (by rw [hf]; decide +kernel)).2.1)
    ((F.zs (by rw [hf]; decide +kernel)).2.2)
    (F.k.symm)
    (F.zi (by rw [hf]; decide +kernel))
    (F.zr (by rw [hf]; decide +kernel))
    (F.zn (by rw [hf]; decide +kernel) (by rw [hf]; decide +kernel))
    (F.zw (by rw [hf]; decide +kernel) (by rw [hf]; decide +kernel) (by rw [hf]; decide +kernel))
    (F.zp (by rw [hf]; decide +kernel))).symm
theorem back_10 (nl : List ByteArray) (x : Act) (F : Fits nl x) (hf : x.f0 = 10) : readS nl (lineW nl x) = x := by
  have e1 : (rowOf x.f0).2.data.toList = [100] := by rw [hf]; decide +kernel
  have e2 : ExtQ.rowI (rowOf x.f0).1 = 10 := by rw [hf]; decide +kernel
  have e3 : lineW nl x = (rowOf x.f0).1 :: ((quoteS (nl.getD x.f1.toNat ByteArray.empty)) :: []) := by
    unfold lineW
    rw [e1]
    simp only [List.flatMap_cons, List.flatMap_nil]
    simp [wordsOf, sayB]
  rw [e3]
  unfold readS
  rw [List.headD_cons, List.tail_cons, e2]
  have e4 : (rowOf (10 : Int)).2.data.toList = [100] := by decide +kernel
  rw [e4]
  simp only [puts_cons, puts_nil, puts_d, List.headD_cons, List.tail_cons]
  exact (act_ext (hf)
    (F.d.symm)
    (F.zt (by rw [hf]; decide +kernel))
    ((F.zs (by rw [hf]; decide +kernel)).1)
    ((F.zs (by rw [hf]; decide +kernel)).2.1)
    ((F.zs (by rw [hf]; decide +kernel)).2.2)
    (F.zk (by rw [hf]; decide +kernel))
    (F.zi (by rw [hf]; decide +kernel))
    (F.zr (by rw [hf]; decide +kernel))
    (F.zn (by rw [hf]; decide +kernel) (by rw [hf]; decide +kernel))
    (F.zw (by rw [hf]; decide +kernel) (by rw [hf]; decide +kernel) (by rw [hf]; decide +kernel))
    (F.zp (by rw [hf]; decide +kernel))).symm
theorem back_11 (nl : List ByteArray) (x : Act) (F : Fits nl x) (hf : x.f0 = 11) : readS nl (lineW nl x) = x := by
  have e1 : (rowOf x.f0).2.data.toList = [110] := by rw [hf]; decide +kernel
  have e2 : ExtQ.rowI (rowOf x.f0).1 = 11 := by rw [hf]; decide +kernel
  have e3 : lineW nl x = (rowOf x.f0).1 :: ((decS (IntKind.u64.wrap x.f9)) :: []) := by
    unfold lineW
    rw [e1]
    simp only [List.flatMap_cons, List.flatMap_nil]
    simp [wordsOf, sayB]
  rw [e3]
  unfold readS
  rw [List.headD_cons, List.tail_cons, e2]
  have e4 : (rowOf (11 : Int)).2.data.toList = [110] := by decide +kernel
  rw [e4]
  simp only [puts_cons, puts_nil, puts_n, List.headD_cons, List.tail_cons]
  exact (act_ext (hf)
    (F.zd (by rw [hf]; decide +kernel))
    (F.zt (by rw [hf]; decide +kernel))
    ((F.zs (by rw [hf]; decide +kernel)).1)
    ((F.zs (by rw [hf]; decide +kernel)).2.1)
    ((F.zs (by rw [hf]; decide +kernel)).2.2)
    (F.zk (by rw [hf]; decide +kernel))
    (F.zi (by rw [hf]; decide +kernel))
    (F.zr (by rw [hf]; decide +kernel))
    (F.n.symm)
    (F.zw (by rw [hf]; decide +kernel) (by rw [hf]; decide +kernel) (by rw [hf]; decide +kernel))
    (F.zp (by rw [hf]; decide +kernel))).symm
theorem back_12 (nl : List ByteArray) (x : Act) (F : Fits nl x) (hf : x.f0 = 12) : readS nl (lineW nl x) = x := by
  have e1 : (rowOf x.f0).2.data.toList = [110] := by rw [hf]; decide +kernel
  have e2 : ExtQ.rowI (rowOf x.f0).1 = 12 := by rw [hf]; decide +kernel
  have e3 : lineW nl x = (rowOf x.f0).1 :: ((decS (IntKind.u64.wrap x.f9)) :: []) := by
    unfold lineW
    rw [e1]
    simp only [List.flatMap_cons, List.flatMap_nil]
    simp [wordsOf, sayB]
  rw [e3]
  unfold readS
  rw [List.headD_cons, List.tail_cons, e2]
  have e4 : (rowOf (12 : Int)).2.data.toList = [110] := by decide +kernel
  rw [e4]
  simp only [puts_cons, puts_nil, puts_n, List.headD_cons, List.tail_cons]
  exact (act_ext (hf)
    (F.zd (by rw [hf]; decide +kernel))
    (F.zt (by rw [hf]; decide +kernel))
    ((F.zs (by rw [hf]; decide +kernel)).1)
    ((F.zs (by rw [hf]; decide +kernel)).2.1)
    ((F.zs (by rw [hf]; decide +kernel)).2.2)
    (F.zk (by rw [hf]; decide +kernel))
    (F.zi (by rw [hf]; decide +kernel))
    (F.zr (by rw [hf]; decide +kernel))
    (F.n.symm)
    (F.zw (by rw [hf]; decide +kernel) (by rw [hf]; decide +kernel) (by rw [hf]; decide +kernel))
    (F.zp (by rw [hf]; decide +kernel))).symm
theorem back_13 (nl : List ByteArray) (x : Act) (F : Fits nl x) (hf : x.f0 = 13) : readS nl (lineW nl x) = x := by
  have e1 : (rowOf x.f0).2.data.toList = [110] := by rw [hf]; decide +kernel
  have e2 : ExtQ.rowI (rowOf x.f0).1 = 13 := by rw [hf]; decide +kernel
  have e3 : lineW nl x = (rowOf x.f0).1 :: ((decS (IntKind.u64.wrap x.f9)) :: []) := by
    unfold lineW
    rw [e1]
    simp only [List.flatMap_cons, List.flatMap_nil]
    simp [wordsOf, sayB]
  rw [e3]
  unfold readS
  rw [List.headD_cons, List.tail_cons, e2]
  have e4 : (rowOf (13 : Int)).2.data.toList = [110] := by decide +kernel
  rw [e4]
  simp only [puts_cons, puts_nil, puts_n, List.headD_cons, List.tail_cons]
  exact (act_ext (hf)
    (F.zd (by rw [hf]; decide +kernel))
    (F.zt (by rw [hf]; decide +kernel))
    ((F.zs (by rw [hf]; decide +kernel)).1)
    ((F.zs (by rw [hf]; decide +kernel)).2.1)
    ((F.zs (by rw [hf]; decide +kernel)).2.2)
    (F.zk (by rw [hf]; decide +kernel))
    (F.zi (by rw [hf]; decide +kernel))
    (F.zr (by rw [hf]; decide +kernel))
    (F.n.symm)
    (F.zw (by rw [hf]; decide +kernel) (by rw [hf]; decide +kernel) (by rw [hf]; decide +kernel))
    (F.zp (by rw [hf]; decide +kernel))).symm
theorem back_14 (nl : List ByteArray) (x : Act) (F : Fits nl x) (hf : x.f0 = 14) : readS nl (lineW nl x) = x := by
  have e1 : (rowOf x.f0).2.data.toList = [100, 120] := by rw [hf]; decide +kernel
  have e2 : ExtQ.rowI (rowOf x.f0).1 = 14 := by rw [hf]; decide +kernel
  have e3 : lineW nl x = (rowOf x.f0).1 :: ((quoteS (nl.getD x.f1.toNat ByteArray.empty)) :: (strOfNums (hexS x.f10)) :: []) := by
    unfold lineW
    rw [e1]
    simp only [List.flatMap_cons, List.flatMap_nil]
    simp [wordsOf, sayB]
  rw [e3]
  unfold readS
  rw [List.headD_cons, List.tail_cons, e2]
  have e4 : (rowOf (14 : Int)).2.data.toList = [100, 120] := by decide +kernel
  rw [e4]
  simp only [puts_cons, puts_nil, puts_d, puts_x, List.headD_cons, List.tail_cons]
  exact (act_ext (hf)
    (F.d.symm)
    (F.zt (by rw [hf]; decide +kernel))
    ((F.zs (by rw [hf]; decide +kernel)).1)
    ((F.zs (by rw [hf]; decide +kernel)).2.1)
    ((F.zs (by rw [hf]; decide +kernel)).2.2)
    (F.zk (by rw [hf]; decide +kernel))
    (F.zi (by rw [hf]; decide +kernel))
    (F.zr (by rw [hf]; decide +kernel))
    (F.zn (by rw [hf]; decide +kernel) (by rw [hf]; decide +kernel))
    (F.w.symm)
    (F.zp (by rw [hf]; decide +kernel))).symm
theorem back_15 (nl : List ByteArray) (x : Act) (F : Fits nl x) (hf : x.f0 = 15) : readS nl (lineW nl x) = x := by
  have e1 : (rowOf x.f0).2.data.toList = [100, 110] := by rw [hf]; decide +kernel
  have e2 : ExtQ.rowI (rowOf x.f0).1 = 15 := by rw [hf]; decide +kernel
  have e3 : lineW nl x = (rowOf x.f0).1 :: ((quoteS (nl.getD x.f1.toNat ByteArray.empty)) :: (decS (IntKind.u64.wrap x.f9)) :: []) := by
    unfold lineW
    rw [e1]
    simp only [List.flatMap_cons, List.flatMap_nil]
    simp [wordsOf, sayB]
  rw [e3]
  unfold readS
  rw [List.headD_cons, List.tail_cons, e2]
  have e4 : (rowOf (15 : Int)).2.data.toList = [100, 110] := by decide +kernel
  rw [e4]
  simp only [puts_cons, puts_nil, puts_d, puts_n, List.headD_cons, List.tail_cons]
  exact (act_ext (hf)
    (F.d.symm)
    (F.zt (by rw [hf]; decide +kernel))
    ((F.zs (by rw [hf]; decide +kernel)).1)
    ((F.zs (by rw [hf]; decide +kernel)).2.1)
    ((F.zs (by rw [hf]; decide +kernel)).2.2)
    (F.zk (by rw [hf]; decide +kernel))
    (F.zi (by rw [hf]; decide +kernel))
    (F.zr (by rw [hf]; decide +kernel))
    (F.n.symm)
    (F.zw (by rw [hf]; decide +kernel) (by rw [hf]; decide +kernel) (by rw [hf]; decide +kernel))
    (F.zp (by rw [hf]; decide +kernel))).symm
theorem back_16 (nl : List ByteArray) (x : Act) (F : Fits nl x) (hf : x.f0 = 16) : readS nl (lineW nl x) = x := by
  have e1 : (rowOf x.f0).2.data.toList = [100, 112] := by rw [hf]; decide +kernel
  have e2 : ExtQ.rowI (rowOf x.f0).1 = 16 := by rw [hf]; decide +kernel
  have e3 : lineW nl x = (rowOf x.f0).1 :: ((quoteS (nl.getD x.f1.toNat ByteArray.empty)) :: (pickS x.f11) :: []) := by
    unfold lineW
    rw [e1]
    simp only [List.flatMap_cons, List.flatMap_nil]
    simp [wordsOf, sayB]
  rw [e3]
  unfold readS
  rw [List.headD_cons, List.tail_cons, e2]
  have e4 : (rowOf (16 : Int)).2.data.toList = [100, 112] := by decide +kernel
  rw [e4]
  simp only [puts_cons, puts_nil, puts_d, puts_p, List.headD_cons, List.tail_cons]
  exact (act_ext (hf)
    (F.d.symm)
    (F.zt (by rw [hf]; decide +kernel))
    ((F.zs (by rw [hf]; decide +kernel)).1)
    ((F.zs (by rw [hf]; decide +kernel)).2.1)
    ((F.zs (by rw [hf]; decide +kernel)).2.2)
    (F.zk (by rw [hf]; decide +kernel))
    (F.zi (by rw [hf]; decide +kernel))
    (F.zr (by rw [hf]; decide +kernel))
    (F.zn (by rw [hf]; decide +kernel) (by rw [hf]; decide +kernel))
    (F.zw (by rw [hf]; decide +kernel) (by rw [hf]; decide +kernel) (by rw [hf]; decide +kernel))
    (F.p.symm)).symm
theorem back_17 (nl : List ByteArray) (x : Act) (F : Fits nl x) (hf : x.f0 = 17) : readS nl (lineW nl x) = x := by
  have e1 : (rowOf x.f0).2.data.toList = [100, 119] := by rw [hf]; decide +kernel
  have e2 : ExtQ.rowI (rowOf x.f0).1 = 17 := by rw [hf]; decide +kernel
  have e3 : lineW nl x = (rowOf x.f0).1 :: ((quoteS (nl.getD x.f1.toNat ByteArray.empty)) :: (strOfNums (hexS x.f10)) :: []) := by
    unfold lineW
    rw [e1]
    simp only [List.flatMap_cons, List.flatMap_nil]
    simp [wordsOf, sayB]
  rw [e3]
  unfold readS
  rw [List.headD_cons, List.tail_cons, e2]
  have e4 : (rowOf (17 : Int)).2.data.toList = [100, 119] := by decide +kernel
  rw [e4]
  simp only [puts_cons, puts_nil, puts_d, puts_w, List.headD_cons, List.tail_cons]
  exact (act_ext (hf)
    (F.d.symm)
    (F.zt (by rw [hf]; decide +kernel))
    ((F.zs (by rw [hf]; decide +kernel)).1)
    ((F.zs (by rw [hf]; decide +kernel)).2.1)
    ((F.zs (by rw [hf]; decide +kernel)).2.2)
    (F.zk (by rw [hf]; decide +kernel))
    (F.zi (by rw [hf]; decide +kernel))
    (F.zr (by rw [hf]; decide +kernel))
    (F.zn (by rw [hf]; decide +kernel) (by rw [hf]; decide +kernel))
    (F.w.symm)
    (F.zp (by rw [hf]; decide +kernel))).symm
end Go.Proofs.YtpdinahdcedmkaaDoor.Ext
/- The words of the line of an act that may be are the act's words; script's reading gives the act back. -/
namespace Go.Proofs.YtpdinahdcedmkaaDoor.Ext
open Go.Proofs.YtpdinahdcedmkaaDoor.P
set_option linter.unusedVariables false
set_option linter.unusedSimpArgs false
open Go.RowKit Go.Proofs.YtpdinahdcedmkaaDoorW.PrintWords Go.Proofs.YtpdinahdcedmkaaDoorW.PrintLast Go.Proofs.YtpdinahdcedmkaaDoorW.PrintMore Go.Proofs.YtpdinahdcedmkaaDoor.Spec

/-- a text's words as lists of bytes -/
def dl (l : List ByteArray) : List (List UInt8) := l.map fun s => s.data.toList
theorem dl_append (a b : List ByteArray) : dl (a ++ b) = dl a ++ dl b := List.map_append
theorem strB_dl (l : List ByteArray) : (dl l).map ExtQ.strB = l := by
  unfold dl
  rw [List.map_map]
  conv => rhs; rw [← List.map_id l]
  apply List.map_congr_left
  intro s _
  rfl
/-- what an act has, read out of what it may be -/
theorem may_facts {nl : List ByteArray} {x : Act} (hx : ActOk x) (hm : mayS nl.length x = true) :
    (0 ≤ x.f1 ∧ x.f1 < (nl.length : Int)) ∧ (0 ≤ x.f2 ∧ x.f2 < (nl.length : Int)) ∧ (hasS x.f0 100 = false → x.f1 = 0) ∧ (hasS x.f0 116 = false → x.f2 = 0) ∧ (hasS x.f0 107 = false → x.f6 = 0) ∧ (hasS x.f0 105 = false → x.f7 = 0) ∧ (hasS x.f0 114 = false → x.f8.f0 = 0 ∧ x.f8.f1 = 0) ∧
    numberR x.f0 x.f9 = true ∧ dataR x.f0 x.f10.length = true ∧ keyedS x = true ∧ (hasS x.f0 112 = false → x.f11 = []) ∧ (1 ≤ x.f0 ∧ x.f0 < 18) := by
  have h := hm
  rw [may_eq] at h
  unfold mayR b4R b5R at h
  simp only [Bool.and_eq_true, Bool.not_eq_true', Bool.or_eq_false_iff, decide_eq_false_iff_not, Bool.and_eq_false_iff, Bool.not_eq_false', bne_eq_false_iff_eq, Bool.or_eq_true, decide_eq_true_eq] at h
  obtain ⟨_, hd, hn, _, ⟨a1, a2, a3, a4, a5, a6, a7⟩, ⟨b1, b2, b3, b4⟩, hp⟩ := h
  unfold mayS at hm
  simp only [Bool.and_eq_true] at hm
  have hrow := hm.1
  refine ⟨⟨by omega, by omega⟩, ⟨by omega, by omega⟩, ?_, ?_, ?_, ?_, ?_, hn, hd, hm.2.1, ?_, ?_⟩
  · intro h0; rw [h0] at a3; exact a3.resolve_left (by simp)
  · intro h0; rw [h0] at a6; exact a6.resolve_left (by simp)
  · intro h0; rw [h0] at b1; exact b1.resolve_left (by simp)
  · intro h0; rw [h0] at b2; exact b2.resolve_left (by simp)
  · intro h0
    rw [h0] at b4
    have := b4.resolve_left (by simp)
    simpa using this
  · intro h0
    rcases hp with hp | hp
    · exact List.eq_nil_of_length_eq_zero hp
    · rw [h0] at hp; exact absurd hp.1 (by simp)
  · unfold rowOf at hrow
    by_cases h0 : 0 ≤ x.f0 ∧ x.f0 < 18
    · refine ⟨?_, h0.2⟩
      rcases Int.lt_or_le 0 x.f0 with h9 | h9
      · omega
      · obtain h8 : x.f0 = 0 := by omega
        rw [h8] at hrow
        exact absurd hrow (by decide +kernel)
    · rw [if_neg h0] at hrow
      exact absurd hrow (by decide +kernel)
theorem xms_nm {c : Int} (h : ((xms c).2 == 0) = true) : known 3 c = true := h
/-- what the words of sets read back -/
theorem sets_back {x : Act} (nl : List ByteArray) (hx : ActOk x) (h : setsS x = true) : (setsR (wordsOf nl x 115)).1 = x.f3 ∧ (setsR (wordsOf nl x 115)).2.1 = x.f4 ∧ (setsR (wordsOf nl x 115)).2.2 = x.f5 := by
  have hw : wordsOf nl x 115 = if x.f3 = 2 then [xmssB, ExtP.nameS 3 x.f5] else hssB :: x.f4.map lvB := by unfold wordsOf; rw [if_neg (by decide), if_pos rfl]
  rw [hw]
  unfold setsS at h
  by_cases h1 : x.f3 = 1
  · rw [if_pos h1] at h
    simp only [Bool.and_eq_true, beq_iff_eq] at h
    rw [if_neg (by omega)]
    unfold setsR
    rw [List.headD_cons, if_neg (by decide), List.tail_cons]
    refine ⟨h1.symm, ?_, h.1.symm⟩
    show (x.f4.map lvB).map lvOf = x.f4
    rw [List.map_map]
    conv => rhs; rw [← List.map_id x.f4]
    apply List.map_congr_left
    intro v hv
    have h2 := h.2
    unfold hssS at h2
    simp only [Bool.and_eq_true, List.all_eq_true] at h2
    have h3 := h2.2.2.1 v hv
    unfold lvOk at h3
    simp only [Bool.and_eq_true] at h3
    obtain ⟨i, hi⟩ := List.mem_iff_getElem?.1 hv
    have hb := hx.bd.lv i
    rw [List.getD_eq_getElem?_getD, hi] at hb
    have hk := fit_known v.f0 v.f1 hb.1.1 hb.2.1 h3.1
    exact lvOf_back v hb.1.1 hb.2.1 hk.1 hk.2
  · rw [if_neg h1] at h
    by_cases h2 : x.f3 = 2
    · rw [if_pos h2] at h
      simp only [Bool.and_eq_true, decide_eq_true_eq] at h
      rw [if_pos h2]
      unfold setsR
      rw [List.headD_cons, if_pos rfl, List.tail_cons, List.headD_cons]
      exact ⟨h2.symm, (List.eq_nil_of_length_eq_zero h.2).symm, (nm_back 3 x.f5 hx.bd.xm.1 (xms_nm h.1)).1⟩
    · rw [if_neg h2] at h; cases h
theorem fits {nl : List ByteArray} {x : Act} (hx : ActOk x) (hn : namesOk nl nl.length = true) (hm : mayS nl.length x = true) : Fits nl x := by
  obtain ⟨d, t, zd, zt, zk, zi, zr, nn, dd, ky, zp, _⟩ := may_facts hx hm
  have h6 := hx.ky
  have h7 := hx.td
  have h8 := hx.rg
  unfold u32P at h6 h7
  unfold u64P at h8
  have h9 : 0 ≤ x.f9 ∧ x.f9 ≤ 1073741824 := by
    unfold numberR at nn
    split at nn
    · simp only [Bool.and_eq_true, decide_eq_true_eq] at nn; omega
    · split at nn
      · simp only [Bool.and_eq_true, decide_eq_true_eq] at nn; omega
      · simp only [decide_eq_true_eq] at nn; omega
  refine ⟨name_back nl hn x.f1 d.1 d.2, name_back nl hn x.f2 t.1 t.2, ?_, ?_, ?_, hex_back _ hx.by_, msg_back _ hx.by_, ?_, pick_back _, ?_, zd, zt, zk, zi, ?_, ?_, ?_, ?_, zp⟩
  · rw [num_back x.f6 (by omega) (by omega)]; omega
  · rw [num_back x.f7 (by omega) (by omega)]; omega
  · rw [num_back x.f9 (by omega) (by omega)]; omega
  · rw [num_back0 x.f8.f0 (by omega) (by omega), num_back0 x.f8.f1 (by omega) (by omega)]
  · intro hs
    unfold keyedS at ky
    rw [if_pos hs] at ky
    exact sets_back nl hx ky
  · intro h0
    have := zr h0
    cases hh : x.f8 with
    | mk a b =>
      rw [hh] at this
      simp only at this
      rw [this.1, this.2]
  · intro h0 h1
    unfold numberR at nn
    rw [if_neg (by rw [h0]; simp), if_neg (by rw [h1]; simp)] at nn
    simpa using nn
  · intro h0 h1 h2
    unfold dataR at dd
    rw [if_neg (by rw [h0]; simp), if_neg (by rw [h1]; simp), if_neg (by rw [h2]; simp)] at dd
    simp only [decide_eq_true_eq] at dd
    exact List.eq_nil_of_length_eq_zero (by omega)
  · intro h0
    unfold keyedS at ky
    rw [if_neg (by rw [h0]; simp)] at ky
    simp only [Bool.and_eq_true, beq_iff_eq, decide_eq_true_eq] at ky
    exact ⟨ky.1, List.eq_nil_of_length_eq_zero ky.2.2, ky.2.1⟩
theorem read_back {nl : List ByteArray} {x : Act} (hx : ActOk x) (hn : namesOk nl nl.length = true) (hm : mayS nl.length x = true) : readS nl (lineW nl x) = x := by
  have F := fits hx hn hm
  obtain ⟨h1, h2⟩ := (may_facts hx hm).2.2.2.2.2.2.2.2.2.2.2
  have key : x.f0 = 1 ∨ x.f0 = 2 ∨ x.f0 = 3 ∨ x.f0 = 4 ∨ x.f0 = 5 ∨ x.f0 = 6 ∨ x.f0 = 7 ∨ x.f0 = 8 ∨ x.f0 = 9 ∨ x.f0 = 10 ∨ x.f0 = 11 ∨ x.f0 = 12 ∨ x.f0 = 13 ∨ x.f0 = 14 ∨ x.f0 = 15 ∨ x.f0 = 16 ∨ x.f0 = 17 := by omega
  rcases key with h | h | h | h | h | h | h | h | h | h | h | h | h | h | h | h | h
  · exact back_1 nl x F h
  · exact back_2 nl x F h
  · exact back_3 nl x F h
  · exact back_4 nl x F h
  · exact back_5 nl x F h
  · exact back_6 nl x F h
  · exact back_7 nl x F h
  · exact back_8 nl x F h
  · exact back_9 nl x F h
  · exact back_10 nl x F h
  · exact back_11 nl x F h
  · exact back_12 nl x F h
  · exact back_13 nl x F h
  · exact back_14 nl x F h
  · exact back_15 nl x F h
  · exact back_16 nl x F h
  · exact back_17 nl x F h
/-! ### the words are good -/
theorem good_nums (l : List Int) (h : ∀ x ∈ l, 33 ≤ x ∧ x ≤ 255 ∧ x ≠ 34) (hn : l ≠ []) : GoodW (strOfNums l).data.toList := by
  rw [strOfNums_data]
  refine good_plain ?_ (by simpa using hn)
  intro b hb
  rw [List.mem_map] at hb
  obtain ⟨x, hx, rfl⟩ := hb
  have := h x hx
  have e : (UInt8.ofNat x.toNat).toNat = x.toNat := by rw [UInt8.toNat_ofNat']; omega
  constructor
  · intro h9
    rw [h9] at e
    have : (32 : UInt8).toNat = 32 := rfl
    omega
  · intro h9
    rw [h9] at e
    have : (34 : UInt8).toNat = 34 := rfl
    omega
theorem good_dec (n : Int) : GoodW (decS n).data.toList := by
  unfold decS
  refine good_nums _ (fun x hx => by have := decL_low n.toNat x hx; omega) ?_
  have := decL_pos n.toNat
  intro h
  rw [h] at this
  exact absurd this (by simp)
theorem good_hex (l : List Int) (h : Bytes l) (hn : l ≠ []) : GoodW (strOfNums (hexS l)).data.toList := by
  refine good_nums _ ?_ ?_
  · intro x hx
    unfold hexS at hx
    rw [List.mem_flatMap] at hx
    obtain ⟨y, hy, hx⟩ := hx
    have := h y hy
    simp only [List.mem_cons, List.not_mem_nil, or_false] at hx
    rcases hx with rfl | rfl
    · unfold hexd; split <;> omega
    · unfold hexd; split <;> omega
  · cases l with
    | nil => exact absurd rfl hn
    | cons a t => simp [hexS]
theorem good_pick (l : List Bool) : GoodW (pickS l).data.toList := by
  show GoodW (pickL l)
  unfold pickL
  split
  · exact good_plain (by simp) (by simp)
  · rename_i h
    refine good_plain ?_ (by intro h9; exact h (by rw [List.map_eq_nil_iff] at h9; rw [h9]; rfl))
    intro b hb
    rw [List.mem_map] at hb
    obtain ⟨c, _, rfl⟩ := hb
    cases c <;> decide
theorem good_rows : ∀ n : Fin 18, 1 ≤ n.val → GoodW (rowOf (n.val : Int)).1.data.toList := by unfold GoodW; decide +kernel
theorem has_row : ∀ n : Fin 18, ∀ c ∈ (rowOf (n.val : Int)).2.data.toList, hasS (n.val : Int) c = true := by decide +kernel
theorem lets_only (c : UInt8) (h : c ∈ lets) : c = 119 ∨ c = 109 ∨ c = 120 ∨ c = 98 ∨ c = 110 ∨ c = 115 ∨ c = 100 ∨ c = 116 ∨ c = 107 ∨ c = 105 ∨ c = 114 ∨ c = 112 := by
  unfold lets at h
  simpa using h
theorem good_words {nl : List ByteArray} {x : Act} (hx : ActOk x) (hm : mayS nl.length x = true) (c : UInt8) (hc : c ∈ (rowOf x.f0).2.data.toList) : ∀ w ∈ dl (wordsOf nl x ((c.toNat : Nat) : Int)), GoodW w := by
  obtain ⟨_, _, _, _, _, _, _, _, dd, ky, _, r1, r2⟩ := may_facts hx hm
  have hh : hasS x.f0 c = true := by
    obtain ⟨n, hn⟩ := Int.eq_ofNat_of_zero_le (show 0 ≤ x.f0 by omega)
    rw [hn] at hc ⊢
    exact has_row ⟨n, by omega⟩ c hc
  have one : ∀ b : ByteArray, GoodW b.data.toList → ∀ w ∈ dl [b], GoodW w := by
    intro b hb w hw
    unfold dl at hw
    simp only [List.map_cons, List.map_nil, List.mem_singleton] at hw
    rw [hw]
    exact hb
  rcases lets_only c (row_lets _ c hc) with rfl | rfl | rfl | rfl | rfl | rfl | rfl | rfl | rfl | rfl | rfl | rfl
  · refine one _ (good_hex x.f10 hx.by_ ?_)
    unfold dataR at dd
    rw [if_pos hh] at dd
    simp only [Bool.and_eq_true, decide_eq_true_eq] at dd
    intro h9
    rw [h9] at dd
    simp at dd
  · exact one _ (good_quote _)
  · refine one _ (good_hex x.f10 hx.by_ ?_)
    intro h9
    have : ∀ n : Fin 18, hasS (n.val : Int) 120 = true → dataR (n.val : Int) 0 = false := by decide +kernel
    obtain ⟨n, hn⟩ := Int.eq_ofNat_of_zero_le (show 0 ≤ x.f0 by omega)
    rw [h9, hn] at dd
    rw [hn] at hh
    have := this ⟨n, by omega⟩ hh
    simp only [List.length_nil] at dd
    rw [show ((0 : Nat) : Int) = 0 from rfl] at dd
    rw [this] at dd
    cases dd
  · exact one _ (good_dec _)
  · exact one _ (good_dec _)
  · unfold keyedS at ky
    rw [if_pos hh] at ky
    have hw : wordsOf nl x ((((115 : UInt8).toNat : Nat)) : Int) = if x.f3 = 2 then [xmssB, ExtP.nameS 3 x.f5] else hssB :: x.f4.map lvB := by unfold wordsOf; rw [if_neg (by decide), if_pos (by decide)]
    rw [hw]
    unfold setsS at ky
    by_cases h1 : x.f3 = 1
    · rw [if_pos h1] at ky
      simp only [Bool.and_eq_true, beq_iff_eq] at ky
      rw [if_neg (by omega)]
      intro w hw
      unfold dl at hw
      rw [List.map_cons, List.mem_cons] at hw
      rcases hw with rfl | hw
      · exact good_plain (by decide) (by decide)
      · rw [List.map_map, List.mem_map] at hw
        obtain ⟨v, hv, rfl⟩ := hw
        have h2 := ky.2
        unfold hssS at h2
        simp only [Bool.and_eq_true, List.all_eq_true] at h2
        have h3 := h2.2.2.1 v hv
        unfold lvOk at h3
        simp only [Bool.and_eq_true] at h3
        obtain ⟨i, hi⟩ := List.mem_iff_getElem?.1 hv
        have hb := hx.bd.lv i
        rw [List.getD_eq_getElem?_getD, hi] at hb
        have hk := fit_known v.f0 v.f1 hb.1.1 hb.2.1 h3.1
        exact good_lvB v hb.1.1 hb.2.1 hk.1 hk.2
    · rw [if_neg h1] at ky
      by_cases h2 : x.f3 = 2
      · rw [if_pos h2] at ky
        simp only [Bool.and_eq_true, decide_eq_true_eq] at ky
        rw [if_pos h2]
        have nb := nm_back 3 x.f5 hx.bd.xm.1 (xms_nm ky.1)
        intro w hw
        unfold dl at hw
        simp only [List.map_cons, List.map_nil, List.mem_cons, List.not_mem_nil, or_false] at hw
        rcases hw with rfl | rfl
        · exact good_plain (by decide) (by decide)
        · exact good_plain (fun b hb => ⟨(nb.2.1 b hb).1, (nb.2.1 b hb).2.1⟩) nb.2.2
      · rw [if_neg h2] at ky; cases ky
  · exact one _ (good_quote _)
  · exact one _ (good_quote _)
  · exact one _ (good_dec _)
  · exact one _ (good_dec _)
  · intro w hw
    have hq : wordsOf nl x ((((114 : UInt8).toNat : Nat)) : Int) = [decS x.f8.f0, decS x.f8.f1] := by unfold wordsOf; rw [if_pos (by decide)]
    rw [hq] at hw
    unfold dl at hw
    simp only [List.map_cons, List.map_nil, List.mem_cons, List.not_mem_nil, or_false] at hw
    rcases hw with rfl | rfl
    · exact good_dec _
    · exact good_dec _
  · exact one _ (good_pick _)
/-! ### a line is its words -/
theorem app_data (a b : ByteArray) : (a ++ b).data.toList = a.data.toList ++ b.data.toList := by rw [ByteArray.data_append, Array.toList_append]
theorem lv_join (l : List Lv) : ∀ (a : ByteArray) (ws : List (List UInt8)), ws ≠ [] → a.data.toList = joinW ws → (l.foldl lvF a).data.toList = joinW (ws ++ dl (l.map lvB)) := by
  induction l with
  | nil => intro a ws _ h; simpa [dl] using h
  | cons v t ih =>
    intro a ws hw h
    rw [List.foldl_cons, ih (lvF a v) (ws ++ [(lvB v).data.toList]) (by simp) ?_]
    · simp [dl]
    · rw [joinW_append ws _ hw (by simp), ← h]
      unfold lvF lvB
      simp only [app_data]
      show _ = _ ++ 32 :: (_ ++ _ ++ _)
      simp
theorem say_join (nl : List ByteArray) (x : Act) (c : Int) : (sayB nl x c).data.toList = joinW (dl (wordsOf nl x c)) ∧ dl (wordsOf nl x c) ≠ [] := by
  unfold wordsOf
  by_cases h1 : c = 114
  · subst h1
    rw [if_pos rfl]
    refine ⟨?_, by simp [dl]⟩
    show ((decS x.f8.f0 ++ ⟨#[32]⟩) ++ decS x.f8.f1).data.toList = _
    simp only [app_data]
    rfl
  rw [if_neg h1]
  by_cases h2 : c = 115
  · subst h2
    rw [if_pos rfl]
    have e : sayB nl x 115 = setsB x := by unfold sayB; simp
    rw [e]
    unfold setsB
    by_cases h3 : x.f3 = 2
    · rw [if_pos h3, if_pos h3]
      refine ⟨?_, by simp [dl]⟩
      rw [app_data]
      rfl
    · rw [if_neg h3, if_neg h3]
      refine ⟨?_, by simp [dl]⟩
      rw [lv_join x.f4 ⟨#[104, 115, 115]⟩ [hssB.data.toList] (by simp) rfl]
      rfl
  rw [if_neg h2]
  exact ⟨rfl, by simp [dl]⟩
theorem fold_join (nl : List ByteArray) (x : Act) (cs : List UInt8) : ∀ (a : ByteArray) (ws : List (List UInt8)), ws ≠ [] → a.data.toList = joinW ws → (cs.foldl (lineF nl x) a).data.toList = joinW (ws ++ dl (cs.flatMap fun c => wordsOf nl x ((c.toNat : Nat) : Int))) := by
  induction cs with
  | nil => intro a ws _ h; simpa [dl] using h
  | cons c t ih =>
    intro a ws hw h
    obtain ⟨s1, s2⟩ := say_join nl x ((c.toNat : Nat) : Int)
    rw [List.foldl_cons, ih (lineF nl x a c) (ws ++ dl (wordsOf nl x ((c.toNat : Nat) : Int))) (by simp [hw]) ?_]
    · rw [List.flatMap_cons, dl_append, List.append_assoc]
    · rw [joinW_append ws _ hw s2, ← h, ← s1]
      unfold lineF
      simp only [app_data]
      simp
theorem line_join (nl : List ByteArray) (x : Act) : (lineB nl x).data.toList = joinW (dl (lineW nl x)) := by
  unfold lineB lineW
  rw [fold_join nl x _ _ [(rowOf x.f0).1.data.toList] (by simp) rfl]
  rfl
theorem line_words {nl : List ByteArray} {x : Act} (hx : ActOk x) (hm : mayS nl.length x = true) : ExtQ.wordsS (lineB nl x) = some (lineW nl x) := by
  obtain ⟨r1, r2⟩ := (may_facts hx hm).2.2.2.2.2.2.2.2.2.2.2
  unfold ExtQ.wordsS
  rw [line_join, wl_joinW]
  · rw [Option.map_some, strB_dl]
  · unfold dl lineW; simp
  · intro w hw
    unfold lineW at hw
    unfold dl at hw
    rw [List.map_cons, List.mem_cons] at hw
    rcases hw with rfl | hw
    · obtain ⟨n, hn⟩ := Int.eq_ofNat_of_zero_le (show 0 ≤ x.f0 by omega)
      rw [hn]
      exact good_rows ⟨n, by omega⟩ (show 1 ≤ n by omega)
    · rw [List.map_flatMap, List.mem_flatMap] at hw
      obtain ⟨c, hc, hw⟩ := hw
      exact good_words hx hm c hc w hw
/-- script.Act gives an act back from its line -/
theorem act_back {p : Plan} {x : Act} (hx : ActOk x) (hh : headedS p.f0 p.f1 p.f2 = true) (hm : mayS p.f2.length x = true) : actS p (lineB p.f2 x) = some x := by
  have hn : namesOk p.f2 p.f2.length = true := by
    unfold headedS at hh
    simp only [Bool.and_eq_true] at hh
    exact hh.2
  obtain ⟨r1, r2⟩ := (may_facts hx hm).2.2.2.2.2.2.2.2.2.2.2
  have hr : ExtQ.rowI ((lineW p.f2 x).headD ⟨#[]⟩) = x.f0 := by
    obtain ⟨n, hn⟩ := Int.eq_ofNat_of_zero_le (show 0 ≤ x.f0 by omega)
    unfold lineW
    rw [List.headD_cons, hn]
    exact row_back ⟨n, by omega⟩ (show 1 ≤ n by omega)
  unfold actS
  rw [line_words hx hm]
  simp only
  rw [read_back hx hn hm, if_pos ⟨hh, by rw [hr]; omega, hm, rfl⟩]
end Go.Proofs.YtpdinahdcedmkaaDoor.Ext
