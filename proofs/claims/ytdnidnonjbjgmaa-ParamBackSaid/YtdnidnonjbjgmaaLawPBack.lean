/- liverylaw06.ParamBack: true. -/
import Derived.Test.YtdnidnonjbjgmaaRCode
import Derived.Test.YtdnidnonjbjgmaaPLive
namespace Go.Proofs.Ytdnidnonjbjgmaa.Ext
set_option linter.unusedVariables false
open Go.RowKit Go.Proofs.YtdnidnonjbjgmaaW.PrintWords Go.Proofs.YtdnidnonjbjgmaaW.PrintLast Go.Proofs.YtdnidnonjbjgmaaW.PrintMore Go.Proofs.Ytdnidnonjbjgmaa.Spec

theorem mem_low (k c : Int) (h0 : 0 ≤ c) (h1 : c < 25) (hk : known k c = true) : c ∈ lowL k 25 := by
  unfold lowL
  rw [List.mem_filter, List.mem_map]
  exact ⟨⟨c.toNat, by rw [List.mem_range]; omega, by show ((c.toNat : Nat) : Int) = c; omega⟩, hk⟩
theorem mem_high (k f c : Int) (h0 : f ≤ c) (h1 : c < f + 64) (hk : known k c = true) : c ∈ highL k f 64 := by
  unfold highL
  rw [List.mem_filter, List.mem_map]
  exact ⟨⟨(c - f).toNat, by rw [List.mem_range]; omega, by show f + (((c - f).toNat : Nat) : Int) = c; omega⟩, hk⟩
theorem ownFam_rng {c f h x : Int} (e : ownFam c x = some (f, h)) : x ≤ c ∧ c < x + 64 := by
  unfold ownFam at e
  split at e
  · rename_i hh; omega
  · cases e
theorem mem_codes (k c : Int) (g0 : 0 ≤ c) (hk : known k c = true) : c ∈ codesOf k := by
  have hk0 := hk
  unfold known at hk
  by_cases h1 : k = 1
  · subst h1
    rw [if_pos rfl] at hk
    show c ∈ codesL 1 4026531840
    unfold codesL
    rw [List.mem_append]
    left
    refine mem_low 1 c g0 ?_ hk0
    rcases Nat.lt_or_ge 16 c.toNat with h | h
    · unfold ots at hk
      rw [Spec.otsTab_big _ h] at hk
      exact absurd (show ((60 : Int) == 0) = true from hk) (by decide)
    · omega
  · rw [if_neg h1] at hk
    by_cases h2 : k = 2
    · subst h2
      rw [if_pos rfl] at hk
      show c ∈ codesL 2 4026531840
      unfold codesL
      rw [List.mem_append]
      unfold lms at hk
      split at hk
      · rename_i f h e
        unfold lmsFam at e
        split at e
        · exact .inl (mem_low 2 c g0 (by omega) hk0)
        · have := ownFam_rng e
          exact .inr (mem_high 2 _ c this.1 this.2 hk0)
      · exact absurd hk (by decide)
    · rw [if_neg h2] at hk
      by_cases h3 : k = 3
      · subst h3
        rw [if_pos rfl] at hk
        show c ∈ codesL 3 4043309056
        unfold codesL
        rw [List.mem_append]
        unfold xms at hk
        split at hk
        · rename_i f h e
          unfold xmsFam at e
          split at e
          · exact .inl (mem_low 3 c g0 (by omega) hk0)
          · split at e
            · exact .inl (mem_low 3 c g0 (by omega) hk0)
            · have := ownFam_rng e
              exact .inr (mem_high 3 _ c this.1 this.2 hk0)
        · exact absurd hk (by decide)
      · rw [if_neg h3] at hk; exact absurd hk (by decide)
theorem known_mem (k c : Int) (h : c ∈ codesOf k) : known k c = true := by
  unfold codesOf at h
  split at h
  · unfold codesL at h
    rcases List.mem_append.1 h with h | h
    · exact (List.mem_filter.1 h).2
    · exact (List.mem_filter.1 h).2
  · simp at h
set_option maxRecDepth 100000 in
theorem names_full (k : Int) (h : k = 1 ∨ k = 2 ∨ k = 3) : ∀ c ∈ codesOf k, (nameS k c).size ≠ 0 := by
  rcases h with rfl | rfl | rfl
  · decide +kernel
  · decide +kernel
  · decide +kernel
set_option maxRecDepth 100000 in
theorem codes_rise (k : Int) : Rises (codesOf k) := by
  by_cases h : k = 1 ∨ k = 2 ∨ k = 3
  · have key : ∀ i, i < (codesOf k).length → i + 1 < (codesOf k).length → (codesOf k).getD i 0 ≤ (codesOf k).getD (i + 1) 0 := by
      rcases h with rfl | rfl | rfl
      · decide +kernel
      · decide +kernel
      · decide +kernel
    intro i hi
    exact key i (by omega) hi
  · have : codesOf k = [] := by unfold codesOf; rw [if_neg h]
    rw [this]
    intro i hi
    simp at hi
set_option maxRecDepth 100000 in
theorem codes_many (k : Int) (h : k = 1 ∨ k = 2 ∨ k = 3) : 10 < (codesOf k).length := by
  rcases h with rfl | rfl | rfl <;> decide +kernel
theorem code_back (k : Int) (c : Int) (h : c ∈ codesOf k) : codeS (nameS k c) = (k, c, 0) := by
  have hk : k = 1 ∨ k = 2 ∨ k = 3 := by
    unfold codesOf at h
    split at h
    · assumption
    · simp at h
  have ok := names_ok k hk c h
  unfold okName at ok
  simp only [Bool.and_eq_true, beq_iff_eq] at ok
  exact found_code k hk _ c ok.2
theorem name_size (k c : Int) : (nameS k c).size ≤ 1000 := by
  unfold nameS
  have h1 := ots_bd c
  have h2 := lms_bd c
  have h3 := xms_bd c
  split
  · split
    · unfold name1S
      have := sumS_size (ots c).1.shake
      have := decS_size (ots c).1.n h1.1 (by omega)
      have := decS_size (ots c).1.w h1.2.2.1 (by omega)
      simp only [ByteArray.size_append]
      have a1 : (⟨#[76, 77, 79, 84, 83, 95]⟩ : ByteArray).size = 6 := rfl
      have a2 : (⟨#[95, 78]⟩ : ByteArray).size = 2 := rfl
      have a3 : (⟨#[95, 87]⟩ : ByteArray).size = 2 := rfl
      omega
    · split
      · unfold name2S
        have := sumS_size (lms c).1.shake
        have := decS_size (lms c).1.n h2.1 (by omega)
        have := decS_size (lms c).1.h h2.2.2.1 (by omega)
        simp only [ByteArray.size_append]
        have a1 : (⟨#[76, 77, 83, 95]⟩ : ByteArray).size = 4 := rfl
        have a2 : (⟨#[95, 77]⟩ : ByteArray).size = 2 := rfl
        have a3 : (⟨#[95, 72]⟩ : ByteArray).size = 2 := rfl
        omega
      · unfold name3S
        have := sumX_size (xms c).1.shake
        have := decS_size (xms c).1.h h3.1 (by omega)
        have := decS_size (8 * (xms c).1.n) (by omega) (by omega)
        simp only [ByteArray.size_append]
        have a1 : (⟨#[88, 77, 83, 83, 45]⟩ : ByteArray).size = 5 := rfl
        have a2 : (⟨#[95]⟩ : ByteArray).size = 1 := rfl
        omega
  · exact Nat.zero_le _
set_option maxHeartbeats 4000000 in
set_option maxRecDepth 100000 in
theorem law_PBack (kind code : Int) (w : World) (g0 : 0 ≤ code) (g1 : code < 4294967296) :
    Calls Try.prog 7 #[.int .i64 kind, .int .u32 code] w fun e w' => e = .returned (.bool true) ∧ Below w.heap.size w w' := by
  have cl := Lib.hid c_live
  have hlen := codesOf_len kind
  have C1 := fun W => c_codesOf kind 1000 (by omega) W
  rw [List.take_of_length_le (by omega), show ((1000 : Nat) : Int) = 1000 from rfl] at C1
  have CK := fun x W => c_Code (nameS kind x) W (by have := name_size kind x; omega)
  have CB := code_back kind
  have hrise := codes_rise kind
  have hbd : ∀ x ∈ codesOf kind, 0 ≤ x ∧ x < 4294967296 := fun x hx => by
    by_cases hk : kind = 1 ∨ kind = 2 ∨ kind = 3
    · exact codesOf_bd kind hk x hx
    · unfold codesOf at hx; rw [if_neg hk] at hx; simp at hx
  have CN := fun W => c_Name kind code W g0 g1
  have hcase : (code ∈ codesOf kind ∧ nameS kind code ≠ ⟨#[]⟩) ∨ (code ∉ codesOf kind ∧ nameS kind code = ⟨#[]⟩) := by
    by_cases hm : code ∈ codesOf kind
    · left
      have hk : kind = 1 ∨ kind = 2 ∨ kind = 3 := by
        have h := hm
        unfold codesOf at h
        split at h
        · assumption
        · simp at h
      have hz := names_full kind hk code hm
      have hne : nameS kind code ≠ ⟨#[]⟩ := fun e => hz (by rw [e]; rfl)
      exact ⟨hm, hne⟩
    · right
      refine ⟨hm, ?_⟩
      unfold nameS
      rw [if_neg (fun h => hm (mem_codes kind code g0 h))]
  have hmany : (kind < 1 ∨ (1 ≤ kind ∧ 3 < kind)) ∨ (1 ≤ kind ∧ kind ≤ 3 ∧ (10 : Int) < ((codesOf kind).length : Int)) := by
    by_cases h : kind = 1 ∨ kind = 2 ∨ kind = 3
    · have := codes_many kind h
      right; omega
    · left; omega
  have HB := Aside0.mk (Below.refl w.heap.size w)
  generalize codesOf kind = L at *
  have c1 := Lib.hid C1
  have ck := Lib.hid CK
  have HCB := Lib.hid CB
  have HBD := Lib.hid hbd
  have HR := Lib.hid hrise
  have HCS := Lib.hid hcase
  have HMY := Lib.hid hmany
  have cn := Lib.hid CN
  clear C1 CK CB hbd hrise hcase hmany CN
  go_enter Try.func7, Try.ntmps7
  go_wp2_with (first
    | (go_at_call 17
       refine (c1.out _).mono ?_
       rintro e v1 ⟨u, rfl, hr, hb⟩
       obtain ⟨A, c, rfl, hlc, hC⟩ := Kd.R_reads hr
       have HC := Aside0.mk hC
       have HLC := Aside0.mk hlc
       have HB1 := Aside0.mk (HB.out.trans (hb.mono HB.out.size))
       clear hb hC hr hlc)
    | fail)
  clear HB
  go_loopw [15] (fun v15 wr => ∃ i : Nat, i ≤ L.length ∧ v15 = .int .i64 (i : Int) ∧ Aside0 (Below v1.heap.size v1 wr)) (fun v15 _ => L.length - (intOf v15).toNat)
  case atStart => exact ⟨0, by omega, rfl, ⟨Below.refl _ _⟩⟩
  case round =>
    obtain ⟨i, hi, rfl, hW⟩ := hrel
    by_cases hlt : i < L.length
    · have hti : (i : Int) < (L.length : Int) := by omega
      obtain ⟨ad1, ea1, hx1⟩ := Kd.at_int (Kd.C_below HC.out hW.out) (i : Int) (by omega) hti
      subst ea1
      rw [Int.toNat_natCast] at hx1
      have hn1 : rd L (i : Int) = L.getD i 0 := rfl
      rw [hn1] at hx1
      have hm : L.getD i 0 ∈ L := by rw [List.getD_eq_getElem?_getD, List.getElem?_eq_getElem hlt]; exact List.getElem_mem hlt
      have hrg := HBD.out _ hm
      have K2 := fun W => c_Name kind (L.getD i 0) W hrg.1 hrg.2
      have K3 := fun W => ck.out (L.getD i 0) W
      rw [HCB.out _ hm] at K3
      simp only at K3
      generalize L.getD i 0 = x at *
      generalize nameS kind x = nm at *
      have k2 := Lib.hid K2
      have k3 := Lib.hid K3
      clear hn1 hm hrg K2 K3
      go_wp2_with (first
        | (go_at_call 32
           refine (k2.out _).mono ?_
           rintro e v ⟨rfl, hb⟩
           have HW2 := Aside0.mk (hW.out.trans (hb.mono hW.out.size))
           clear hb)
        | (go_at_call 30
           refine (k3.out _).mono ?_
           rintro e v ⟨rfl, hb⟩
           have HW3 := Aside0.mk (HW2.out.trans (hb.mono HW2.out.size))
           clear hb)
        | fail)
      go_roundw
      case rel => exact ⟨i + 1, by omega, by go_num, HW3⟩
      case measure => simp [intOf]; omega
    · obtain rfl : i = L.length := by omega
      have HBf := Aside0.mk (HB1.out.trans (hW.out.mono HB1.out.size))
      have HWb := Aside0.mk hW.out
      clear hW hlt
      have KC := fun W hC => contains_walk A c L code W hC (by omega) HLC.out
      have KS := fun W hC => sorted_walk A c L W hC (by omega) HLC.out HR.out
      have ks := Lib.hid KS
      clear KS
      rcases HCS.out with ⟨hm, hne⟩ | ⟨hm, hne⟩
      · rw [decide_eq_true hm] at KC
        have kc := Lib.hid KC
        have te := str_ne hne
        have te2 : (nameS kind code).toList.isEmpty = false := by
          rw [List.isEmpty_eq_false_iff]
          intro h
          refine hne (Go.WideShapes.bytes_inj ?_)
          rw [← ByteArray.toList_eq, h]
        generalize nameS kind code = nm at *
        clear KC hm hne HCS
        rcases HMY.out with (h1 | ⟨h1, h2⟩) | ⟨h1, h2, h3⟩
        all_goals
          clear HMY
          go_wp2_with (first
            | (go_at_call 9
               refine (cl.out _).mono ?_
               rintro e v2 ⟨rfl, hb⟩
               have HBa := Aside0.mk (HBf.out.trans (hb.mono HBf.out.size))
               have HWa := Aside0.mk (HWb.out.trans (hb.mono HWb.out.size))
               clear hb)
            | (go_at_call 34
               refine (kc.out _ (Kd.C_below HC.out HWa.out)).mono ?_
               rintro e v3 ⟨rfl, hb⟩
               have HBc := Aside0.mk (HBa.out.trans (hb.mono HBa.out.size))
               have HWc := Aside0.mk (HWa.out.trans (hb.mono HWa.out.size))
               clear hb)
            | (go_at_call 32
               refine (cn.out _).mono ?_
               rintro e v4 ⟨rfl, hb⟩
               have HBd := Aside0.mk (HBc.out.trans (hb.mono HBc.out.size))
               have HWd := Aside0.mk (HWc.out.trans (hb.mono HWc.out.size))
               clear hb)
            | (go_at_call 35
               refine (ks.out _ (Kd.C_below HC.out HWd.out)).mono ?_
               rintro e v5 ⟨rfl, hb⟩
               have HBe := Aside0.mk (HBd.out.trans (hb.mono HBd.out.size))
               clear hb)
            | fail)
          go_ret
          exact ⟨rfl, HBe.out⟩
      · rw [decide_eq_false hm] at KC
        have kc := Lib.hid KC
        have CN := cn.out
        rw [hne] at CN
        have cn := Lib.hid CN
        clear KC hm hne HCS CN
        rcases HMY.out with (h1 | ⟨h1, h2⟩) | ⟨h1, h2, h3⟩
        all_goals
          clear HMY
          go_wp2_with (first
            | (go_at_call 9
               refine (cl.out _).mono ?_
               rintro e v2 ⟨rfl, hb⟩
               have HBa := Aside0.mk (HBf.out.trans (hb.mono HBf.out.size))
               have HWa := Aside0.mk (HWb.out.trans (hb.mono HWb.out.size))
               clear hb)
            | (go_at_call 34
               refine (kc.out _ (Kd.C_below HC.out HWa.out)).mono ?_
               rintro e v3 ⟨rfl, hb⟩
               have HBc := Aside0.mk (HBa.out.trans (hb.mono HBa.out.size))
               have HWc := Aside0.mk (HWa.out.trans (hb.mono HWa.out.size))
               clear hb)
            | (go_at_call 32
               refine (cn.out _).mono ?_
               rintro e v4 ⟨rfl, hb⟩
               have HBd := Aside0.mk (HBc.out.trans (hb.mono HBc.out.size))
               have HWd := Aside0.mk (HWc.out.trans (hb.mono HWc.out.size))
               clear hb)
            | (go_at_call 35
               refine (ks.out _ (Kd.C_below HC.out HWd.out)).mono ?_
               rintro e v5 ⟨rfl, hb⟩
               have HBe := Aside0.mk (HBd.out.trans (hb.mono HBd.out.size))
               clear hb)
            | fail)
          go_ret
          exact ⟨rfl, HBe.out⟩
end Go.Proofs.Ytdnidnonjbjgmaa.Ext
