import Derived.Test.YtpdinahdcedmkaaDoorMHSets
/- script.placed: may an act's devices, key, transfer and range be, of any act. -/
namespace Go.Proofs.YtpdinahdcedmkaaDoor.Ext
open Go.Proofs.YtpdinahdcedmkaaDoor.P
set_option linter.unusedVariables false
set_option linter.unusedSimpArgs false
open Go.RowKit Go.Proofs.YtpdinahdcedmkaaDoorW.PrintWords Go.Proofs.YtpdinahdcedmkaaDoorW.PrintLast Go.Proofs.YtpdinahdcedmkaaDoorW.PrintMore Go.Proofs.YtpdinahdcedmkaaDoor.Spec

set_option maxHeartbeats 1000000 in
theorem c_one (lo hi : Int) (w : World) : Calls Tryd.prog 70 #[.agg #[.int .u64 lo, .int .u64 hi]] w (BoolB (oneS lo hi) w) := by
  have X0 := Aside0.mk (Bx.new w [.int .u64 lo, .int .u64 hi] 38)
  have q0 := X0.out.c 0
  have q1 := X0.out.c 1
  go_enter Tryd.func70, Tryd.ntmps70
  go_wp2
  all_goals
    go_ret
    refine boolB_i ?_ X0.out.hb
    clear X0 q0 q1
    simp_all [oneS]
    try omega
set_option maxHeartbeats 4000000 in
set_option maxRecDepth 100000 in
theorem c_may1 (b : Nat) (lo hi : Int) (w : World) (hlo : w.cell? ⟨b, 0, none⟩ = some (.int .u64 lo)) (hhi : w.cell? ⟨b, 1, none⟩ = some (.int .u64 hi)) :
    Calls Tryd.prog 50 #[.slice (some ⟨b, 0, none⟩) 1 1] w (BoolB (oneS lo hi) w) := by
  have c1 := Lib.hid (fun W => c_one lo hi W)
  have HL := Aside0.mk hlo
  have HH := Aside0.mk hhi
  generalize oneS lo hi = R at *
  clear hlo hhi
  go_enter Tryd.func50, Tryd.ntmps50
  go_wp2_with fail
  go_loopw [7] (fun v7 wr => ∃ i : Nat, v7 = .int .i64 i ∧ Aside0 (i = 0 ∨ i = 1 ∧ R = true) ∧ Aside0 (Below w.heap.size w wr)) (fun v7 _ => 1 - (intOf v7).toNat)
  case atStart => exact ⟨0, rfl, ⟨.inl rfl⟩, ⟨Below.refl _ _⟩⟩
  case round =>
    obtain ⟨i, rfl, HI, HB⟩ := hrel
    rcases HI.out with rfl | ⟨rfl, rfl⟩
    · have y0 := (HB.out.cell (World.block_lt_of_cell? w _ HL.out)).trans HL.out
      have y1 := (HB.out.cell (World.block_lt_of_cell? w _ HH.out)).trans HH.out
      have X0 := Aside0.mk ((⟨heap_alloc_new wr _, HB.out.alloc HB.out.size _⟩ : Bx w (wr.alloc (.cells #[.int .u64 lo, .int .u64 hi] 38)) wr.heap.size [.int .u64 lo, .int .u64 hi] 38))
      go_upto_region 4 with fail
      generalize (wr.alloc (.cells #[.int .u64 lo, .int .u64 hi] 38)) = W4 at *
      generalize wr.heap.size = lb at *
      clear y0 y1
      have Xd := Aside0.mk (X0.out.next (Below.drew (Below.refl W4.heap.size W4)))
      cases R with
      | false =>
        refine wp_region_held_drew (S := fun W => W.cell? ⟨lb, 0, none⟩ = some (.int .u64 lo) ∧ W.cell? ⟨lb, 1, none⟩ = some (.int .u64 hi)) (by kernel_rfl) (⟨Xd.out.c 0, Xd.out.c 1⟩) (fun hHeld => ?_)
        apply tkH 0
        refine wpAnyH_ready (rs := [1]) (by kernel_rfl) (by simp) ?_
        refine AllReadyH.cons rfl (fun K hK => ?_) AllReadyH.nil
        go_simp
        go_at_call 70
        with_reducible refine (c1.out _).mono ?_
        rintro e u1 ⟨rfl, hbz⟩
        try go_wp2_with fail
        have X1 := Aside0.mk (Xd.out.next hbz)
        refine hK.out _ _ (⟨X1.out.c 0, X1.out.c 1⟩) ?_
        clear hHeld hbz hK K
        intro hHeld
        try simp only [Act.put, List.setIfInBounds_toArray, List.set_cons_zero, List.set_cons_succ, List.getElem_toArray, List.getElem_cons_succ, List.getElem_cons_zero]
        apply tkH 2
        apply tkH 3
        apply skH 4
        apply skH 5
        apply skH 6
        apply skH 7
        apply skH 8
        apply skH 9
        apply skH 10
        apply skH 11
        apply skH 12
        apply skH 13
        apply skH 14
        apply skH 15
        apply skH 16
        apply tkH 17
        refine wpAnyH_done (by kernel_rfl) ?_ _
        go_wp2
        go_ret
        exact ⟨rfl, X1.out.hb⟩
      | true =>
        refine wp_region_held_drew (S := fun W => W.cell? ⟨lb, 0, none⟩ = some (.int .u64 lo) ∧ W.cell? ⟨lb, 1, none⟩ = some (.int .u64 hi)) (by kernel_rfl) (⟨Xd.out.c 0, Xd.out.c 1⟩) (fun hHeld => ?_)
        apply tkH 0
        refine wpAnyH_ready (rs := [1]) (by kernel_rfl) (by simp) ?_
        refine AllReadyH.cons rfl (fun K hK => ?_) AllReadyH.nil
        go_simp
        go_at_call 70
        with_reducible refine (c1.out _).mono ?_
        rintro e u1 ⟨rfl, hbz⟩
        try go_wp2_with fail
        have X1 := Aside0.mk (Xd.out.next hbz)
        refine hK.out _ _ (⟨X1.out.c 0, X1.out.c 1⟩) ?_
        clear hHeld hbz hK K
        intro hHeld
        try simp only [Act.put, List.setIfInBounds_toArray, List.set_cons_zero, List.set_cons_succ, List.getElem_toArray, List.getElem_cons_succ, List.getElem_cons_zero]
        apply tkH 2
        apply tkH 3
        apply tkH 4
        apply tkH 5
        apply tkH 6
        apply skH 7
        apply skH 8
        apply skH 9
        apply skH 10
        apply skH 11
        apply skH 12
        apply skH 13
        apply skH 14
        apply skH 15
        apply tkH 16
        apply tkH 17
        refine wpAnyH_done (by kernel_rfl) ?_ _
        go_wp2
        go_roundw
        case rel => exact ⟨1, by go_num, ⟨.inr ⟨rfl, by first | rfl | trivial⟩⟩, ⟨X1.out.hb⟩⟩
        case measure => simp [intOf]
    · go_wp2
      go_ret
      exact ⟨rfl, HB.out⟩
def placedS (n : Nat) (x : Act) : Bool := inS (hasS x.f0 100) x.f1 n && (inS (hasS x.f0 116) x.f2 n && (!(hasS x.f0 116 && x.f2 == x.f1) && (!(!hasS x.f0 107 && x.f6 != 0 || (!hasS x.f0 105 && x.f7 != 0)) && (if hasS x.f0 114 = true then oneS x.f8.f0 x.f8.f1 else x.f8.f0 == 0 && x.f8.f1 == 0))))
attribute [local go_sem high] eqRg
set_option maxHeartbeats 40000000 in
set_option maxRecDepth 100000 in
theorem c_placed (p : Plan) (x : Act) (cp cs : List Value) (w : World) (hP : k33.K w p cp) (hK : k42.K w x cs) :
    Calls Tryd.prog 36 #[.agg cp.toArray, .agg cs.toArray] w (BoolB (placedS p.f2.length x) w) := by
  have lD := Lib.hid (fun W => c_has x.f0 100 W)
  have lT := Lib.hid (fun W => c_has x.f0 116 W)
  have lK := Lib.hid (fun W => c_has x.f0 107 W)
  have lI := Lib.hid (fun W => c_has x.f0 105 W)
  have lR := Lib.hid (fun W => c_has x.f0 114 W)
  have P0 := Aside0.mk ((Bx.new w cp 33).push (.cells cs.toArray 42))
  have X0 := Aside0.mk ((Bx.new w cp 33).on cs 42 |>.at_ (show _ = w.heap.size + 1 by simp))
  obtain ⟨A4, c4, A11, c11, A12, c12, rfl, l4, g4, l11, g11, l12, g12⟩ := k42_open hK
  obtain ⟨B2, d2, B3, d3, rfl, m2, e2, m3, e3⟩ := k33_open hP
  clear hP hK g4 g11 g12 l4 l11 l12 m2 e2 m3 e3
  obtain ⟨R, hR⟩ : ∃ R, placedS p.f2.length x = R := ⟨_, rfl⟩
  rw [hR]
  unfold placedS at hR
  generalize hasS x.f0 100 = vD at *
  generalize hasS x.f0 116 = vT at *
  generalize hasS x.f0 107 = vK at *
  generalize hasS x.f0 105 = vI at *
  generalize hasS x.f0 114 = vR at *
  generalize x.f1 = dev at *
  generalize x.f2 = dto at *
  generalize x.f6 = key at *
  generalize x.f7 = tid at *
  generalize x.f8.f0 = lo at *
  generalize x.f8.f1 = hi at *
  generalize p.f2.length = n at *
  have cD := Lib.hid (fun b W h => c_inB (R := inS vD dev n) rfl b B2 d2 W h)
  have cT := Lib.hid (fun b W h => c_inB (R := inS vT dto n) rfl b B2 d2 W h)
  have cM := Lib.hid (fun b W h0 h1 => c_may1 b lo hi W h0 h1)
  generalize inS vD dev n = i1 at *
  generalize inS vT dto n = i2 at *
  generalize oneS lo hi = b1 at *
  obtain ⟨z3, e3⟩ : ∃ b, (dto == dev) = b := ⟨_, rfl⟩
  rw [e3] at hR
  have HR := Lib.hid hR
  clear hR
  have HZ := Aside0.mk (hx_mk P0.out X0.out)
  clear P0 X0
  go_enter Tryd.func36, Tryd.ntmps36
  go_upto_region 2 with fail
  go_cut [36] (fun s36 wx => s36 = .bool (!(i1 && (i2 && !(vT && z3)))) ∧ Aside0 (HX w 33 42 w.heap.size (w.heap.size + 1) (.int .i64 p.f0) (.int .i64 p.f1) (.slice B2 n d2) (.slice B3 p.f3.length d3) (.int .i64 x.f0) (.int .i64 dev) (.int .i64 dto) (.int .i64 x.f3) (.slice A4 x.f4.length c4) (.int .u32 x.f5) (.int .u32 key) (.int .u32 tid) (.int .u64 lo) (.int .u64 hi) (.int .i64 x.f9) (.slice A11 x.f10.length c11) (.slice A12 x.f11.length c12) wx))
  case first =>
    cases i1 with
    | false =>
      refine wp_region_held_drew (S := HX w 33 42 w.heap.size (w.heap.size + 1) (.int .i64 p.f0) (.int .i64 p.f1) (.slice B2 n d2) (.slice B3 p.f3.length d3) (.int .i64 x.f0) (.int .i64 dev) (.int .i64 dto) (.int .i64 x.f3) (.slice A4 x.f4.length c4) (.int .u32 x.f5) (.int .u32 key) (.int .u32 tid) (.int .u64 lo) (.int .u64 hi) (.int .i64 x.f9) (.slice A11 x.f10.length c11) (.slice A12 x.f11.length c12)) (by kernel_rfl) (HZ.out.drew) (fun hHeld => ?_)
      apply tkH 0
      apply tkH 1
      apply tkH 2
      apply tkH 4
      apply tkH 5
      refine wpAnyH_ready (rs := [3]) (by kernel_rfl) (by simp) ?_
      refine AllReadyH.cons rfl (fun K hK => ?_) AllReadyH.nil
      go_simp
      go_at_call 46
      with_reducible refine (lD.out _).mono ?_
      rintro e u1 ⟨rfl, hbz⟩
      try go_wp2_with fail
      refine hK.out _ _ (hHeld.next hbz) ?_
      clear hHeld hbz hK K
      intro hHeld
      try simp only [Act.put, List.setIfInBounds_toArray, List.set_cons_zero, List.set_cons_succ, List.getElem_toArray, List.getElem_cons_succ, List.getElem_cons_zero]
      refine wpAnyH_ready (rs := [6]) (by kernel_rfl) (by simp) ?_
      refine AllReadyH.cons rfl (fun K hK => ?_) AllReadyH.nil
      go_simp
      go_at_call 49
      with_reducible refine (cD.out _ _ (HX.p hHeld |>.c 2)).mono ?_
      rintro e u2 ⟨rfl, hbz⟩
      try go_wp2_with fail
      refine hK.out _ _ (hHeld.next hbz) ?_
      clear hHeld hbz hK K
      intro hHeld
      try simp only [Act.put, List.setIfInBounds_toArray, List.set_cons_zero, List.set_cons_succ, List.getElem_toArray, List.getElem_cons_succ, List.getElem_cons_zero]
      apply tkH 7
      apply tkH 8
      apply skH 9
      apply skH 10
      apply skH 11
      apply skH 12
      apply skH 13
      apply skH 14
      apply skH 15
      apply skH 16
      apply tkH 17
      apply tkH 18
      apply skH 19
      apply skH 20
      apply skH 21
      apply skH 22
      apply skH 23
      apply skH 24
      apply skH 25
      apply skH 26
      apply skH 27
      apply skH 28
      apply tkH 29
      refine wpAnyH_done (by kernel_rfl) ?_ _
      go_wp2_with fail
      go_meet
      exact ⟨by first | rfl | simp, ⟨hHeld⟩⟩
    | true =>
      cases i2 with
      | false =>
        refine wp_region_held_drew (S := HX w 33 42 w.heap.size (w.heap.size + 1) (.int .i64 p.f0) (.int .i64 p.f1) (.slice B2 n d2) (.slice B3 p.f3.length d3) (.int .i64 x.f0) (.int .i64 dev) (.int .i64 dto) (.int .i64 x.f3) (.slice A4 x.f4.length c4) (.int .u32 x.f5) (.int .u32 key) (.int .u32 tid) (.int .u64 lo) (.int .u64 hi) (.int .i64 x.f9) (.slice A11 x.f10.length c11) (.slice A12 x.f11.length c12)) (by kernel_rfl) (HZ.out.drew) (fun hHeld => ?_)
        apply tkH 0
        apply tkH 1
        apply tkH 2
        apply tkH 4
        apply tkH 5
        refine wpAnyH_ready (rs := [3]) (by kernel_rfl) (by simp) ?_
        refine AllReadyH.cons rfl (fun K hK => ?_) AllReadyH.nil
        go_simp
        go_at_call 46
        with_reducible refine (lD.out _).mono ?_
        rintro e u3 ⟨rfl, hbz⟩
        try go_wp2_with fail
        refine hK.out _ _ (hHeld.next hbz) ?_
        clear hHeld hbz hK K
        intro hHeld
        try simp only [Act.put, List.setIfInBounds_toArray, List.set_cons_zero, List.set_cons_succ, List.getElem_toArray, List.getElem_cons_succ, List.getElem_cons_zero]
        refine wpAnyH_ready (rs := [6]) (by kernel_rfl) (by simp) ?_
        refine AllReadyH.cons rfl (fun K hK => ?_) AllReadyH.nil
        go_simp
        go_at_call 49
        with_reducible refine (cD.out _ _ (HX.p hHeld |>.c 2)).mono ?_
        rintro e u4 ⟨rfl, hbz⟩
        try go_wp2_with fail
        refine hK.out _ _ (hHeld.next hbz) ?_
        clear hHeld hbz hK K
        intro hHeld
        try simp only [Act.put, List.setIfInBounds_toArray, List.set_cons_zero, List.set_cons_succ, List.getElem_toArray, List.getElem_cons_succ, List.getElem_cons_zero]
        apply tkH 7
        apply tkH 8
        apply tkH 9
        apply tkH 10
        apply tkH 11
        apply tkH 13
        apply tkH 14
        refine wpAnyH_ready (rs := [12]) (by kernel_rfl) (by simp) ?_
        refine AllReadyH.cons rfl (fun K hK => ?_) AllReadyH.nil
        go_simp
        go_at_call 46
        with_reducible refine (lT.out _).mono ?_
        rintro e u5 ⟨rfl, hbz⟩
        try go_wp2_with fail
        refine hK.out _ _ (hHeld.next hbz) ?_
        clear hHeld hbz hK K
        intro hHeld
        try simp only [Act.put, List.setIfInBounds_toArray, List.set_cons_zero, List.set_cons_succ, List.getElem_toArray, List.getElem_cons_succ, List.getElem_cons_zero]
        refine wpAnyH_ready (rs := [15]) (by kernel_rfl) (by simp) ?_
        refine AllReadyH.cons rfl (fun K hK => ?_) AllReadyH.nil
        go_simp
        go_at_call 49
        with_reducible refine (cT.out _ _ (HX.p hHeld |>.c 2)).mono ?_
        rintro e u6 ⟨rfl, hbz⟩
        try go_wp2_with fail
        refine hK.out _ _ (hHeld.next hbz) ?_
        clear hHeld hbz hK K
        intro hHeld
        try simp only [Act.put, List.setIfInBounds_toArray, List.set_cons_zero, List.set_cons_succ, List.getElem_toArray, List.getElem_cons_succ, List.getElem_cons_zero]
        apply tkH 16
        apply tkH 17
        apply tkH 18
        apply skH 19
        apply skH 20
        apply skH 21
        apply skH 22
        apply skH 23
        apply skH 24
        apply skH 25
        apply skH 26
        apply skH 27
        apply skH 28
        apply tkH 29
        refine wpAnyH_done (by kernel_rfl) ?_ _
        go_wp2_with fail
        go_meet
        exact ⟨by first | rfl | simp, ⟨hHeld⟩⟩
      | true =>
        cases vT with
        | false =>
          refine wp_region_held_drew (S := HX w 33 42 w.heap.size (w.heap.size + 1) (.int .i64 p.f0) (.int .i64 p.f1) (.slice B2 n d2) (.slice B3 p.f3.length d3) (.int .i64 x.f0) (.int .i64 dev) (.int .i64 dto) (.int .i64 x.f3) (.slice A4 x.f4.length c4) (.int .u32 x.f5) (.int .u32 key) (.int .u32 tid) (.int .u64 lo) (.int .u64 hi) (.int .i64 x.f9) (.slice A11 x.f10.length c11) (.slice A12 x.f11.length c12)) (by kernel_rfl) (HZ.out.drew) (fun hHeld => ?_)
          apply tkH 0
          apply tkH 1
          apply tkH 2
          apply tkH 4
          apply tkH 5
          refine wpAnyH_ready (rs := [3]) (by kernel_rfl) (by simp) ?_
          refine AllReadyH.cons rfl (fun K hK => ?_) AllReadyH.nil
          go_simp
          go_at_call 46
          with_reducible refine (lD.out _).mono ?_
          rintro e u7 ⟨rfl, hbz⟩
          try go_wp2_with fail
          refine hK.out _ _ (hHeld.next hbz) ?_
          clear hHeld hbz hK K
          intro hHeld
          try simp only [Act.put, List.setIfInBounds_toArray, List.set_cons_zero, List.set_cons_succ, List.getElem_toArray, List.getElem_cons_succ, List.getElem_cons_zero]
          refine wpAnyH_ready (rs := [6]) (by kernel_rfl) (by simp) ?_
          refine AllReadyH.cons rfl (fun K hK => ?_) AllReadyH.nil
          go_simp
          go_at_call 49
          with_reducible refine (cD.out _ _ (HX.p hHeld |>.c 2)).mono ?_
          rintro e u8 ⟨rfl, hbz⟩
          try go_wp2_with fail
          refine hK.out _ _ (hHeld.next hbz) ?_
          clear hHeld hbz hK K
          intro hHeld
          try simp only [Act.put, List.setIfInBounds_toArray, List.set_cons_zero, List.set_cons_succ, List.getElem_toArray, List.getElem_cons_succ, List.getElem_cons_zero]
          apply tkH 7
          apply tkH 8
          apply tkH 9
          apply tkH 10
          apply tkH 11
          apply tkH 13
          apply tkH 14
          refine wpAnyH_ready (rs := [12]) (by kernel_rfl) (by simp) ?_
          refine AllReadyH.cons rfl (fun K hK => ?_) AllReadyH.nil
          go_simp
          go_at_call 46
          with_reducible refine (lT.out _).mono ?_
          rintro e u9 ⟨rfl, hbz⟩
          try go_wp2_with fail
          refine hK.out _ _ (hHeld.next hbz) ?_
          clear hHeld hbz hK K
          intro hHeld
          try simp only [Act.put, List.setIfInBounds_toArray, List.set_cons_zero, List.set_cons_succ, List.getElem_toArray, List.getElem_cons_succ, List.getElem_cons_zero]
          refine wpAnyH_ready (rs := [15]) (by kernel_rfl) (by simp) ?_
          refine AllReadyH.cons rfl (fun K hK => ?_) AllReadyH.nil
          go_simp
          go_at_call 49
          with_reducible refine (cT.out _ _ (HX.p hHeld |>.c 2)).mono ?_
          rintro e u10 ⟨rfl, hbz⟩
          try go_wp2_with fail
          refine hK.out _ _ (hHeld.next hbz) ?_
          clear hHeld hbz hK K
          intro hHeld
          try simp only [Act.put, List.setIfInBounds_toArray, List.set_cons_zero, List.set_cons_succ, List.getElem_toArray, List.getElem_cons_succ, List.getElem_cons_zero]
          apply tkH 16
          apply tkH 17
          apply tkH 18
          apply tkH 19
          apply tkH 20
          refine wpAnyH_ready (rs := [21]) (by kernel_rfl) (by simp) ?_
          refine AllReadyH.cons rfl (fun K hK => ?_) AllReadyH.nil
          go_simp
          go_at_call 46
          with_reducible refine (lT.out _).mono ?_
          rintro e u11 ⟨rfl, hbz⟩
          try go_wp2_with fail
          refine hK.out _ _ (hHeld.next hbz) ?_
          clear hHeld hbz hK K
          intro hHeld
          try simp only [Act.put, List.setIfInBounds_toArray, List.set_cons_zero, List.set_cons_succ, List.getElem_toArray, List.getElem_cons_succ, List.getElem_cons_zero]
          apply tkH 22
          apply skH 23
          apply skH 24
          apply skH 25
          apply skH 26
          apply skH 27
          apply tkH 28
          apply tkH 29
          refine wpAnyH_done (by kernel_rfl) ?_ _
          go_wp2_with fail
          go_meet
          exact ⟨by first | rfl | simp, ⟨hHeld⟩⟩
        | true =>
          refine wp_region_held_drew (S := HX w 33 42 w.heap.size (w.heap.size + 1) (.int .i64 p.f0) (.int .i64 p.f1) (.slice B2 n d2) (.slice B3 p.f3.length d3) (.int .i64 x.f0) (.int .i64 dev) (.int .i64 dto) (.int .i64 x.f3) (.slice A4 x.f4.length c4) (.int .u32 x.f5) (.int .u32 key) (.int .u32 tid) (.int .u64 lo) (.int .u64 hi) (.int .i64 x.f9) (.slice A11 x.f10.length c11) (.slice A12 x.f11.length c12)) (by kernel_rfl) (HZ.out.drew) (fun hHeld => ?_)
          apply tkH 0
          apply tkH 1
          apply tkH 2
          apply tkH 4
          apply tkH 5
          refine wpAnyH_ready (rs := [3]) (by kernel_rfl) (by simp) ?_
          refine AllReadyH.cons rfl (fun K hK => ?_) AllReadyH.nil
          go_simp
          go_at_call 46
          with_reducible refine (lD.out _).mono ?_
          rintro e u12 ⟨rfl, hbz⟩
          try go_wp2_with fail
          refine hK.out _ _ (hHeld.next hbz) ?_
          clear hHeld hbz hK K
          intro hHeld
          try simp only [Act.put, List.setIfInBounds_toArray, List.set_cons_zero, List.set_cons_succ, List.getElem_toArray, List.getElem_cons_succ, List.getElem_cons_zero]
          refine wpAnyH_ready (rs := [6]) (by kernel_rfl) (by simp) ?_
          refine AllReadyH.cons rfl (fun K hK => ?_) AllReadyH.nil
          go_simp
          go_at_call 49
          with_reducible refine (cD.out _ _ (HX.p hHeld |>.c 2)).mono ?_
          rintro e u13 ⟨rfl, hbz⟩
          try go_wp2_with fail
          refine hK.out _ _ (hHeld.next hbz) ?_
          clear hHeld hbz hK K
          intro hHeld
          try simp only [Act.put, List.setIfInBounds_toArray, List.set_cons_zero, List.set_cons_succ, List.getElem_toArray, List.getElem_cons_succ, List.getElem_cons_zero]
          apply tkH 7
          apply tkH 8
          apply tkH 9
          apply tkH 10
          apply tkH 11
          apply tkH 13
          apply tkH 14
          refine wpAnyH_ready (rs := [12]) (by kernel_rfl) (by simp) ?_
          refine AllReadyH.cons rfl (fun K hK => ?_) AllReadyH.nil
          go_simp
          go_at_call 46
          with_reducible refine (lT.out _).mono ?_
          rintro e u14 ⟨rfl, hbz⟩
          try go_wp2_with fail
          refine hK.out _ _ (hHeld.next hbz) ?_
          clear hHeld hbz hK K
          intro hHeld
          try simp only [Act.put, List.setIfInBounds_toArray, List.set_cons_zero, List.set_cons_succ, List.getElem_toArray, List.getElem_cons_succ, List.getElem_cons_zero]
          refine wpAnyH_ready (rs := [15]) (by kernel_rfl) (by simp) ?_
          refine AllReadyH.cons rfl (fun K hK => ?_) AllReadyH.nil
          go_simp
          go_at_call 49
          with_reducible refine (cT.out _ _ (HX.p hHeld |>.c 2)).mono ?_
          rintro e u15 ⟨rfl, hbz⟩
          try go_wp2_with fail
          refine hK.out _ _ (hHeld.next hbz) ?_
          clear hHeld hbz hK K
          intro hHeld
          try simp only [Act.put, List.setIfInBounds_toArray, List.set_cons_zero, List.set_cons_succ, List.getElem_toArray, List.getElem_cons_succ, List.getElem_cons_zero]
          apply tkH 16
          apply tkH 17
          apply tkH 18
          apply tkH 19
          apply tkH 20
          refine wpAnyH_ready (rs := [21]) (by kernel_rfl) (by simp) ?_
          refine AllReadyH.cons rfl (fun K hK => ?_) AllReadyH.nil
          go_simp
          go_at_call 46
          with_reducible refine (lT.out _).mono ?_
          rintro e u16 ⟨rfl, hbz⟩
          try go_wp2_with fail
          refine hK.out _ _ (hHeld.next hbz) ?_
          clear hHeld hbz hK K
          intro hHeld
          try simp only [Act.put, List.setIfInBounds_toArray, List.set_cons_zero, List.set_cons_succ, List.getElem_toArray, List.getElem_cons_succ, List.getElem_cons_zero]
          apply tkH 22
          apply tkH 23
          apply tkH 24
          apply tkH 25
          apply tkH 26
          apply tkH 27
          apply tkH 28
          apply tkH 29
          refine wpAnyH_done (by kernel_rfl) ?_ _
          go_wp2_with fail
          go_meet
          exact ⟨by first | rfl | simp, ⟨hHeld⟩⟩
  case rest =>
    obtain ⟨rfl, HY⟩ := hcut
    clear HZ lD cD cT lT e3
    have hR2 : R = (i1 && (i2 && !(vT && z3)) && (!(!vK && key != 0 || (!vI && tid != 0)) && (if vR = true then b1 else lo == 0 && hi == 0))) := by
      rw [← HR.out]
      cases i1 <;> cases i2 <;> cases vT <;> cases z3 <;> rfl
    have HR2 := Lib.hid hR2
    clear hR2 HR
    generalize (i1 && (i2 && !(vT && z3))) = c2 at *
    cases c2 with
    | false =>
      go_wp2
      go_ret
      exact boolB_i (by rw [HR2.out]; rfl) HY.out.x.hb
    | true =>
    go_upto_region 4 with fail
    obtain ⟨z1, e1⟩ : ∃ b, (key != 0) = b := ⟨_, rfl⟩
    obtain ⟨z2, e2⟩ : ∃ b, (tid != 0) = b := ⟨_, rfl⟩
    have HR3 := Lib.hid (show R = (!(!vK && z1 || (!vI && z2)) && (if vR = true then b1 else lo == 0 && hi == 0)) by rw [HR2.out, e1, e2]; rfl)
    clear HR2
    go_cut [56] (fun s56 wx => s56 = .bool (!vK && z1 || (!vI && z2)) ∧ Aside0 (HX w 33 42 w.heap.size (w.heap.size + 1) (.int .i64 p.f0) (.int .i64 p.f1) (.slice B2 n d2) (.slice B3 p.f3.length d3) (.int .i64 x.f0) (.int .i64 dev) (.int .i64 dto) (.int .i64 x.f3) (.slice A4 x.f4.length c4) (.int .u32 x.f5) (.int .u32 key) (.int .u32 tid) (.int .u64 lo) (.int .u64 hi) (.int .i64 x.f9) (.slice A11 x.f10.length c11) (.slice A12 x.f11.length c12) wx))
    case first =>
      have q0 := HY.out.x.c 0
      have q6 := HY.out.x.c 6
      have q7 := HY.out.x.c 7
      go_wp2_with (first
        | (go_at_call 46
           first
           | (with_reducible refine (lK.out _).mono ?_)
           | (with_reducible refine (lI.out _).mono ?_)
           rintro e v ⟨rfl, hb⟩
           replace HY := Aside0.mk (HY.out.next hb)
           clear hb
           have q0 := HY.out.x.c 0
           have q6 := HY.out.x.c 6
           have q7 := HY.out.x.c 7)
        | fail)
      all_goals
        go_meet
        refine ⟨congrArg Value.bool ?_, HY⟩
        clear HY HR3 lK lI lR cM q0 q6 q7 e1 e2
        simp_all
    case rest =>
    obtain ⟨rfl, HZ⟩ := hcut
    clear HY e1 e2
    generalize (!vK && z1 || (!vI && z2)) = c4 at *
    cases c4 with
    | true =>
      go_wp2
      go_ret
      exact boolB_i (by rw [HR3.out]; rfl) HZ.out.x.hb
    | false =>
      have q0 := HZ.out.x.c 0
      have q8 := HZ.out.x.c 8
      have q9 := HZ.out.x.c 9
      go_wp2_with (first
        | (go_at_call 46
           with_reducible refine (lR.out _).mono ?_
           rintro e v ⟨rfl, hb⟩
           replace HZ := Aside0.mk (HZ.out.next hb)
           clear hb
           have HA := Aside0.mk (HZ.out.x.push (.cells #[.int .u64 lo, .int .u64 hi] 38))
           have m0 : (v.alloc (.cells #[.int .u64 lo, .int .u64 hi] 38)).cell? ⟨v.heap.size, 0, none⟩ = some (.int .u64 lo) := (HZ.out.x.on [.int .u64 lo, .int .u64 hi] 38).c 0
           have m1 : (v.alloc (.cells #[.int .u64 lo, .int .u64 hi] 38)).cell? ⟨v.heap.size, 1, none⟩ = some (.int .u64 hi) := (HZ.out.x.on [.int .u64 lo, .int .u64 hi] 38).c 1
           have q0 := HZ.out.x.c 0
           have q8 := HZ.out.x.c 8
           have q9 := HZ.out.x.c 9)
        | (go_at_call 50
           with_reducible refine (cM.out _ _ m0 m1).mono ?_
           rintro e v2 ⟨rfl, hb⟩
           replace HA := Aside0.mk (HA.out.next hb)
           clear hb)
        | fail)
      all_goals
        go_ret
        refine boolB_i ?_ (by first | exact HA.out.hb | exact HZ.out.x.hb)
        rw [HR3.out]
        clear HZ HA HR3 lK lI lR cM q0 q8 q9 m0 m1
        simp_all
end Go.Proofs.YtpdinahdcedmkaaDoor.Ext

