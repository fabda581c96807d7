/- liveryref06.Code: the kind and the code of a name; that it is param.Code's answer. -/
import Derived.Test.YtdnidnonjbjgmaaRName
namespace Go.Proofs.Ytdnidnonjbjgmaa.Ext
set_option linter.unusedVariables false
open Go.RowKit Go.Proofs.YtdnidnonjbjgmaaW.PrintWords Go.Proofs.YtdnidnonjbjgmaaW.PrintLast Go.Proofs.YtdnidnonjbjgmaaW.PrintMore Go.Proofs.Ytdnidnonjbjgmaa.Spec

/-! ### what the names are, by the kernel -/
def okName (k c : Int) : Bool :=
  plainS (nameS k c) && (kindOf (nameS k c) == k) && (((codesOf k).find? (isName k (nameS k c))) == some c)
set_option maxRecDepth 100000 in
theorem names_ok (k : Int) (h : k = 1 ∨ k = 2 ∨ k = 3) : ∀ c ∈ codesOf k, okName k c = true := by
  rcases h with rfl | rfl | rfl
  · decide +kernel
  · decide +kernel
  · decide +kernel

theorem found_code (k : Int) (h : k = 1 ∨ k = 2 ∨ k = 3) (name : ByteArray) (c : Int) (hf : (codesOf k).find? (isName k name) = some c) : codeS name = (k, c, 0) := by
  have hm := List.mem_of_find?_eq_some hf
  have hp := List.find?_some hf
  have hn : nameS k c = name := of_decide_eq_true hp
  have ok := names_ok k h c hm
  unfold okName at ok
  rw [hn] at ok
  simp only [Bool.and_eq_true, beq_iff_eq] at ok
  rw [codeS_eq name ok.1.1, ok.1.2]
  unfold ansS
  rw [hf]
theorem kindOf_cases (name : ByteArray) : kindOf name = 1 ∨ kindOf name = 2 ∨ kindOf name = 3 := by
  unfold kindOf
  split
  · exact .inl rfl
  · split
    · exact .inr (.inl rfl)
    · exact .inr (.inr rfl)
theorem none_code (name : ByteArray) (hn : ∀ k : Int, k = 1 ∨ k = 2 ∨ k = 3 → (codesOf k).find? (isName k name) = none) : codeS name = (0, 0, 60) := by
  cases hp : plainS name with
  | false => unfold codeS; rw [if_pos hp]
  | true =>
    rw [codeS_eq name hp]
    unfold ansS
    rw [hn _ (kindOf_cases name)]
theorem codesOf_len (k : Int) : (codesOf k).length ≤ 89 := by
  unfold codesOf
  split
  · exact codesL_len _ _
  · simp
set_option maxHeartbeats 4000000 in
set_option maxRecDepth 100000 in
theorem r_Code (name : ByteArray) (w : World) (hs : name.size ≤ 140737488351232) :
    Calls Try.prog 31 #[.string name] w fun e w' => e = .returned (.tuple #[.int .i64 (codeS name).1, .int .u32 (codeS name).2.1, .int .i64 (codeS name).2.2]) ∧ Below w.heap.size w w' := by
  obtain ⟨U, hU⟩ : ∃ U, codeS name = U := ⟨_, rfl⟩
  have HU := Lib.hid hU
  rw [hU]
  clear hU
  go_enter Try.func31, Try.ntmps31
  go_wp2
  go_loopw [5] (fun v5 wr => ∃ k : Int, 1 ≤ k ∧ k ≤ 4 ∧ v5 = .int .i64 k ∧ Aside0 (∀ j : Int, 1 ≤ j → j < k → (codesOf j).find? (isName j name) = none) ∧ Aside0 (Below w.heap.size w wr)) (fun v5 _ => (5 - intOf v5).toNat)
  case atStart => exact ⟨1, by omega, by omega, rfl, ⟨fun j h1 h2 => by omega⟩, ⟨Below.refl _ _⟩⟩
  case round =>
    obtain ⟨k, hk1, hk2, rfl, hN, hB⟩ := hrel
    by_cases hk : k = 4
    · subst hk
      have hU2 : U = (0, 0, 60) := by
        rw [← HU.out]
        exact none_code name (fun j hj => hN.out j (by omega) (by omega))
      subst hU2
      clear hN HU
      go_wp2
      exact bodyPost_ret (v := .tuple #[.int .i64 0, .int .u32 0, .int .i64 60]) (by simp [results, Try.results31, go_sem]) rfl ⟨rfl, hB.out⟩
    · have hk3 : k ≤ 3 := by omega
      have hk4 : k = 1 ∨ k = 2 ∨ k = 3 := by omega
      have K1 := fun W => r_Codes k W
      rw [refCodes_eq k hk4] at K1
      have hlen := codesOf_len k
      have hbd := codesOf_bd k hk4
      have hFC := fun c hf => found_code k hk4 name c hf
      have hFN := find_none (isName k name) (codesOf k)
      have hFA := find_at (isName k name) (codesOf k)
      have hNN : ((codesOf k).find? (isName k name) = none) → ∀ j : Int, 1 ≤ j → j < k + 1 → (codesOf j).find? (isName j name) = none := fun h j h1 h2 => by
        by_cases h3 : j < k
        · exact hN.out j h1 h3
        · obtain rfl : j = k := by omega
          exact h
      generalize hL : codesOf k = L at *
      have k1 := Lib.hid K1
      have HFC := Lib.hid hFC
      have HFN := Lib.hid hFN
      have HFA := Lib.hid hFA
      have HNN := Lib.hid hNN
      have HBD := Lib.hid hbd
      clear K1 hFC hFN hFA hNN hbd hN hL hk hk4
      go_wp2_with (first
        | (go_at_call 15
           refine (k1.out _).mono ?_
           rintro e v1 ⟨u, rfl, hr, hb⟩
           obtain ⟨A, c, rfl, hlc, hC⟩ := Kd.R_reads hr
           have HC := Aside0.mk hC
           have HLC := Aside0.mk hlc
           have HB1 := Aside0.mk (hB.out.trans (hb.mono hB.out.size))
           clear hb hC hr hlc)
        | fail)
      go_loopw [16] (fun v16 wr => ∃ i : Nat, i ≤ L.length ∧ v16 = .int .i64 (i : Int) ∧ Aside0 (∀ x ∈ L.take i, isName k name x = false) ∧ Aside0 (Below v1.heap.size v1 wr)) (fun v16 _ => L.length - (intOf v16).toNat)
      case atStart => exact ⟨0, by omega, rfl, ⟨by simp⟩, ⟨Below.refl _ _⟩⟩
      case round =>
        obtain ⟨i, hi, rfl, hE, hW⟩ := hrel
        by_cases hlt : i < L.length
        · have hti : (i : Int) < (L.length : Int) := by omega
          obtain ⟨ad1, ea1, hx1⟩ := Kd.at_int (Kd.C_below HC.out hW.out) (i : Int) (by omega) hti
          subst ea1
          rw [Int.toNat_natCast] at hx1
          have hn1 : rd L (i : Int) = L.getD i 0 := rfl
          rw [hn1] at hx1
          have hm : L.getD i 0 ∈ L := by rw [List.getD_eq_getElem?_getD, List.getElem?_eq_getElem hlt]; exact List.getElem_mem hlt
          have hrg := HBD.out _ hm
          have CN := fun W => r_Name k (L.getD i 0) W hrg.1 hrg.2
          have HWW := Aside0.mk (HB1.out.trans (hW.out.mono HB1.out.size))
          have hfa := HFA.out i hlt
          have hS := take_snoc L i hlt
          obtain ⟨x, hgx⟩ : ∃ x, L.getD i 0 = x := ⟨_, rfl⟩
          rw [hgx] at CN hx1 hfa hS
          clear hn1 hm hrg hgx
          by_cases hp : nameS k x = name
          · have hU2 : U = (k, x, 0) := by
              rw [← HU.out]
              exact HFC.out x (hfa (decide_eq_true hp) hE.out)
            subst hU2
            rw [hp] at CN
            have cn := Lib.hid CN
            clear CN hp hfa hS HU HFC HFN HFA HNN
            go_wp2_with (first
              | (go_at_call 33
                 refine (cn.out _).mono ?_
                 rintro e v2 ⟨rfl, hb⟩
                 have hx2 := pw_cell_below hb hx1
                 have HB2 := Aside0.mk (HWW.out.trans (hb.mono HWW.out.size))
                 clear hb)
              | fail)
            go_quiet (fail)
            go_wp2
            exact bodyPost_ret (v := .tuple #[.int .i64 k, .int .u32 x, .int .i64 0]) (by simp [results, Try.results31, go_sem]) rfl ⟨rfl, below_drewN' HB2.out nq⟩
          · have te := str_ne hp
            have HN2 := Aside0.mk (show ∀ y ∈ L.take (i + 1), isName k name y = false by
              rw [hS]
              intro y hy
              rcases List.mem_append.1 hy with hy | hy
              · exact hE.out y hy
              · simp only [List.mem_cons, List.not_mem_nil, or_false] at hy
                subst hy
                exact decide_eq_false hp)
            clear hp hfa hS
            generalize nameS k x = nm at *
            have cn := Lib.hid CN
            clear CN
            go_wp2_with (first
              | (go_at_call 33
                 refine (cn.out _).mono ?_
                 rintro e v2 ⟨rfl, hb⟩
                 have HW2 := Aside0.mk (hW.out.trans (hb.mono hW.out.size))
                 clear hb)
              | fail)
            go_roundw
            case rel => exact ⟨i + 1, by omega, by go_num, HN2, HW2⟩
            case measure => simp [intOf]; omega
        · obtain rfl : i = L.length := by omega
          have HE2 := Aside0.mk (HNN.out (HFN.out (by have := hE.out; rwa [List.take_of_length_le (Nat.le_refl _)] at this)))
          have HW2 := Aside0.mk (HB1.out.trans (hW.out.mono HB1.out.size))
          clear hE hW
          go_wp2
          go_roundw
          case rel => exact ⟨k + 1, by omega, by omega, by go_num, HE2, HW2⟩
          case measure => simp [intOf]; omega
end Go.Proofs.Ytdnidnonjbjgmaa.Ext
