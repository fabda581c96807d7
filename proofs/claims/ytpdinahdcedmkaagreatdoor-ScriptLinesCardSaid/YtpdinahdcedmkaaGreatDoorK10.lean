import Derived.Test.YtpdinahdcedmkaaGreatDoorKT
import Derived.Test.YtpdinahdcedmkaaGreatDoorK8
import Derived.Test.YtpdinahdcedmkaaGreatDoorK4
import Derived.Test.YtpdinahdcedmkaaGreatDoorShelf
import Derived.Lib.CutLaws
import Derived.BigRegion
import Derived.Test.YtpdinahdcedmkaaGreatDoorK5
import Derived.Lib.MapLaws
import Derived.Laws.Cover4
import Derived.Test.YtpdinahdcedmkaaGreatDoorK6
set_option linter.unusedVariables false
set_option linter.unusedSimpArgs false
set_option maxHeartbeats 40000000
set_option maxRecDepth 100000
/- script.placed: may an act's devices, key, transfer and range be, of any act. -/
namespace Go.Proofs.YtpdinahdcedmkaaGreatDoor.Ext
open Go.Proofs.YtpdinahdcedmkaaGreatDoor.P
open Go.RowKit YtpdinahdcedmkaaGreatDoorW.PrintWords YtpdinahdcedmkaaGreatDoorW.PrintLast YtpdinahdcedmkaaGreatDoorW.PrintMore Go.Proofs.YtpdinahdcedmkaaGreatDoor.Spec
theorem c_one (lo hi : Int) (w : World) : Calls Tryz.prog 138 #[.agg #[.int .u64 lo, .int .u64 hi]] w (BoolB (oneS lo hi) w) := by
 have X0 := Zz.mk (Bx.new w [.int .u64 lo, .int .u64 hi] 30)
 have q0 := X0.out.c 0
 have q1 := X0.out.c 1
 go_enter Tryz.func138, Tryz.ntmps138
 go_wp2
 all_goals
  go_ret
  refine boolB_i ?_ X0.out.hb
  clear X0 q0 q1
  simp_all [oneS]
  try omega
theorem c_may1 (b : Nat) (lo hi : Int) (w : World) (hlo : w.cell? ⟨b, 0, none⟩ = some (.int .u64 lo)) (hhi : w.cell? ⟨b, 1, none⟩ = some (.int .u64 hi)) :
 Calls Tryz.prog 107 #[.slice (some ⟨b, 0, none⟩) 1 1] w (BoolB (oneS lo hi) w) := by
 have c1 := Lib.hid (fun W => c_one lo hi W)
 have HL := Zz.mk hlo
 have HH := Zz.mk hhi
 generalize oneS lo hi = R at *
 clear hlo hhi
 go_enter Tryz.func107, Tryz.ntmps107
 go_wp2_with fail
 go_loopw [7] (fun v7 wr => ∃ i : Nat, v7 = .int .i64 i /\ Zz (i = 0 \/ i = 1 /\ R = true) /\ Zz (Below w.heap.size w wr)) (fun v7 _ => 1 - (intOf v7).toNat)
 case atStart => exact ⟨0, rfl, ⟨.inl rfl⟩, ⟨Below.refl _ _⟩⟩
 case round =>
  obtain ⟨i, rfl, HI, HB⟩ := hrel
  rcases HI.out with rfl | ⟨rfl, rfl⟩
  · have y0 := (HB.out.cell (World.block_lt_of_cell? w _ HL.out)).trans HL.out
    have y1 := (HB.out.cell (World.block_lt_of_cell? w _ HH.out)).trans HH.out
    have X0 := Zz.mk ((⟨heap_alloc_new wr _, HB.out.alloc HB.out.size _⟩ : Bx w (wr.alloc (.cells #[.int .u64 lo, .int .u64 hi] 30)) wr.heap.size [.int .u64 lo, .int .u64 hi] 30))
    go_upto_region 4 with fail
    generalize (wr.alloc (.cells #[.int .u64 lo, .int .u64 hi] 30)) = W4 at *
    generalize wr.heap.size = lb at *
    clear y0 y1
    have Xd := Zz.mk (X0.out.next (Below.drew (Below.refl W4.heap.size W4)))
    cases R with
    | false =>
      refine wp_region_held_drew (S := fun W => W.cell? ⟨lb, 0, none⟩ = some (.int .u64 lo) /\ W.cell? ⟨lb, 1, none⟩ = some (.int .u64 hi)) (by kernel_rfl) (⟨Xd.out.c 0, Xd.out.c 1⟩) (fun hHeld => ?_)
      apply tkJ 0
      refine wpAnyH_ready (rs := [1]) (by kernel_rfl) (by simp) ?_
      refine AllReadyH.cons rfl (fun K hK => ?_) AllReadyH.nil
      go_simp
      go_at_call 138
      with_reducible refine (c1.out _).mono ?_
      rintro e u1 ⟨rfl, hbz⟩
      try go_wp2_with fail
      have X1 := Zz.mk (Xd.out.next hbz)
      refine hK.out _ _ (⟨X1.out.c 0, X1.out.c 1⟩) ?_
      clear hHeld hbz hK K
      intro hHeld
      try simp only [Act.put,pA,pB,pC,pD,pE,pF]
      apply tkJ 2
      apply tkJ 3
      apply skJ 4
      apply skJ 5
      apply skJ 6
      apply skJ 7
      apply skJ 8
      apply skJ 9
      apply skJ 10
      apply skJ 11
      apply skJ 12
      apply skJ 13
      apply skJ 14
      apply skJ 15
      apply skJ 16
      apply tkJ 17
      refine wpAnyH_done (by kernel_rfl) ?_ _
      go_wp2
      go_ret
      exact ⟨rfl, X1.out.hb⟩
    | true =>
      refine wp_region_held_drew (S := fun W => W.cell? ⟨lb, 0, none⟩ = some (.int .u64 lo) /\ W.cell? ⟨lb, 1, none⟩ = some (.int .u64 hi)) (by kernel_rfl) (⟨Xd.out.c 0, Xd.out.c 1⟩) (fun hHeld => ?_)
      apply tkJ 0
      refine wpAnyH_ready (rs := [1]) (by kernel_rfl) (by simp) ?_
      refine AllReadyH.cons rfl (fun K hK => ?_) AllReadyH.nil
      go_simp
      go_at_call 138
      with_reducible refine (c1.out _).mono ?_
      rintro e u1 ⟨rfl, hbz⟩
      try go_wp2_with fail
      have X1 := Zz.mk (Xd.out.next hbz)
      refine hK.out _ _ (⟨X1.out.c 0, X1.out.c 1⟩) ?_
      clear hHeld hbz hK K
      intro hHeld
      try simp only [Act.put,pA,pB,pC,pD,pE,pF]
      apply tkJ 2
      apply tkJ 3
      apply tkJ 4
      apply tkJ 5
      apply tkJ 6
      apply skJ 7
      apply skJ 8
      apply skJ 9
      apply skJ 10
      apply skJ 11
      apply skJ 12
      apply skJ 13
      apply skJ 14
      apply skJ 15
      apply tkJ 16
      apply tkJ 17
      refine wpAnyH_done (by kernel_rfl) ?_ _
      go_wp2
      go_roundw
      case rel => exact ⟨1, by go_num, ⟨.inr ⟨rfl, by first | rfl | trivial⟩⟩, ⟨X1.out.hb⟩⟩
      case measure => simp [intOf]
  · go_wp2
    go_ret
    exact ⟨rfl, HB.out⟩
def placedS (n : Nat) (x : Act) : Bool := inS (hasS x.f0 100) x.f1 n && (inS (hasS x.f0 116) x.f2 n && (!(hasS x.f0 116 && x.f2 == x.f1) && (!(!hasS x.f0 107 && x.f6 != 0 || (!hasS x.f0 105 && x.f7 != 0)) && (if hasS x.f0 114 = true then oneS x.f8.f0 x.f8.f1 else x.f8.f0 == 0 && x.f8.f1 == 0))))
attribute [local go_sem high] eqRg
theorem c_placed (p : Plan) (x : Act) (cp cs : List Value) (w : World) (hP : k25.K w p cp) (hK : k34.K w x cs) :
 Calls Tryz.prog 66 #[.agg cp.toArray, .agg cs.toArray] w (BoolB (placedS p.f2.length x) w) := by
 have lD := Lib.hid (fun W => c_has x.f0 100 W)
 have lT := Lib.hid (fun W => c_has x.f0 116 W)
 have lK := Lib.hid (fun W => c_has x.f0 107 W)
 have lI := Lib.hid (fun W => c_has x.f0 105 W)
 have lR := Lib.hid (fun W => c_has x.f0 114 W)
 have P0 := Zz.mk ((Bx.new w cp 25).push (.cells cs.toArray 34))
 have X0 := Zz.mk ((Bx.new w cp 25).on cs 34 |>.at_ (show _ = w.heap.size + 1 by simp))
 obtain ⟨A4, c4, A11, c11, A12, c12, rfl, l4, g4, l11, g11, l12, g12⟩ := k34_open hK
 obtain ⟨B2, d2, B3, d3, rfl, m2, e2, m3, e3⟩ := k25_open hP
 clear hP hK g4 g11 g12 l4 l11 l12 m2 e2 m3 e3
 obtain ⟨R, hR⟩ : ∃ R, placedS p.f2.length x = R := ⟨_, rfl⟩
 rw [hR]
 unfold placedS at hR
 generalize hasS x.f0 100 = vD at *
 generalize hasS x.f0 116 = vT at *
 generalize hasS x.f0 107 = vK at *
 generalize hasS x.f0 105 = vI at *
 generalize hasS x.f0 114 = vR at *
 generalize x.f1 = dev at *
 generalize x.f2 = dto at *
 generalize x.f6 = key at *
 generalize x.f7 = tid at *
 generalize x.f8.f0 = lo at *
 generalize x.f8.f1 = hi at *
 generalize p.f2.length = n at *
 have cD := Lib.hid (fun b W h => c_inB (R := inS vD dev n) rfl b B2 d2 W h)
 have cT := Lib.hid (fun b W h => c_inB (R := inS vT dto n) rfl b B2 d2 W h)
 have cM := Lib.hid (fun b W h0 h1 => c_may1 b lo hi W h0 h1)
 generalize inS vD dev n = i1 at *
 generalize inS vT dto n = i2 at *
 generalize oneS lo hi = b1 at *
 obtain ⟨z3, e3⟩ : ∃ b, (dto == dev) = b := ⟨_, rfl⟩
 rw [e3] at hR
 have HR := Lib.hid hR
 clear hR
 have HZ := Zz.mk (hx_mk P0.out X0.out)
 clear P0 X0
 go_enter Tryz.func66, Tryz.ntmps66
 go_upto_region 2 with fail
 go_cut [36] (fun s36 wx => s36 = .bool (!(i1 && (i2 && !(vT && z3)))) /\ Zz (HX w 25 34 w.heap.size (w.heap.size + 1) (.int .i64 p.f0) (.int .i64 p.f1) (.slice B2 n d2) (.slice B3 p.f3.length d3) (.int .i64 x.f0) (.int .i64 dev) (.int .i64 dto) (.int .i64 x.f3) (.slice A4 x.f4.length c4) (.int .u32 x.f5) (.int .u32 key) (.int .u32 tid) (.int .u64 lo) (.int .u64 hi) (.int .i64 x.f9) (.slice A11 x.f10.length c11) (.slice A12 x.f11.length c12) wx))
 case first =>
  cases i1 with
  | false =>
    refine wp_region_held_drew (S := HX w 25 34 w.heap.size (w.heap.size + 1) (.int .i64 p.f0) (.int .i64 p.f1) (.slice B2 n d2) (.slice B3 p.f3.length d3) (.int .i64 x.f0) (.int .i64 dev) (.int .i64 dto) (.int .i64 x.f3) (.slice A4 x.f4.length c4) (.int .u32 x.f5) (.int .u32 key) (.int .u32 tid) (.int .u64 lo) (.int .u64 hi) (.int .i64 x.f9) (.slice A11 x.f10.length c11) (.slice A12 x.f11.length c12)) (by kernel_rfl) (HZ.out.drew) (fun hHeld => ?_)
    apply tkJ 0
    apply tkJ 1
    apply tkJ 2
    apply tkJ 4
    apply tkJ 5
    refine wpAnyH_ready (rs := [3]) (by kernel_rfl) (by simp) ?_
    refine AllReadyH.cons rfl (fun K hK => ?_) AllReadyH.nil
    go_simp
    go_at_call 103
    with_reducible refine (lD.out _).mono ?_
    rintro e u1 ⟨rfl, hbz⟩
    try go_wp2_with fail
    refine hK.out _ _ (hHeld.next hbz) ?_
    clear hHeld hbz hK K
    intro hHeld
    try simp only [Act.put,pA,pB,pC,pD,pE,pF]
    refine wpAnyH_ready (rs := [6]) (by kernel_rfl) (by simp) ?_
    refine AllReadyH.cons rfl (fun K hK => ?_) AllReadyH.nil
    go_simp
    go_at_call 106
    with_reducible refine (cD.out _ _ (HX.p hHeld |>.c 2)).mono ?_
    rintro e u2 ⟨rfl, hbz⟩
    try go_wp2_with fail
    refine hK.out _ _ (hHeld.next hbz) ?_
    clear hHeld hbz hK K
    intro hHeld
    try simp only [Act.put,pA,pB,pC,pD,pE,pF]
    apply tkJ 7
    apply tkJ 8
    apply skJ 9
    apply skJ 10
    apply skJ 11
    apply skJ 12
    apply skJ 13
    apply skJ 14
    apply skJ 15
    apply skJ 16
    apply tkJ 17
    apply tkJ 18
    apply skJ 19
    apply skJ 20
    apply skJ 21
    apply skJ 22
    apply skJ 23
    apply skJ 24
    apply skJ 25
    apply skJ 26
    apply skJ 27
    apply skJ 28
    apply tkJ 29
    refine wpAnyH_done (by kernel_rfl) ?_ _
    go_wp2_with fail
    go_meet
    exact ⟨by first | rfl | simp, ⟨hHeld⟩⟩
  | true =>
    cases i2 with
    | false =>
      refine wp_region_held_drew (S := HX w 25 34 w.heap.size (w.heap.size + 1) (.int .i64 p.f0) (.int .i64 p.f1) (.slice B2 n d2) (.slice B3 p.f3.length d3) (.int .i64 x.f0) (.int .i64 dev) (.int .i64 dto) (.int .i64 x.f3) (.slice A4 x.f4.length c4) (.int .u32 x.f5) (.int .u32 key) (.int .u32 tid) (.int .u64 lo) (.int .u64 hi) (.int .i64 x.f9) (.slice A11 x.f10.length c11) (.slice A12 x.f11.length c12)) (by kernel_rfl) (HZ.out.drew) (fun hHeld => ?_)
      apply tkJ 0
      apply tkJ 1
      apply tkJ 2
      apply tkJ 4
      apply tkJ 5
      refine wpAnyH_ready (rs := [3]) (by kernel_rfl) (by simp) ?_
      refine AllReadyH.cons rfl (fun K hK => ?_) AllReadyH.nil
      go_simp
      go_at_call 103
      with_reducible refine (lD.out _).mono ?_
      rintro e u3 ⟨rfl, hbz⟩
      try go_wp2_with fail
      refine hK.out _ _ (hHeld.next hbz) ?_
      clear hHeld hbz hK K
      intro hHeld
      try simp only [Act.put,pA,pB,pC,pD,pE,pF]
      refine wpAnyH_ready (rs := [6]) (by kernel_rfl) (by simp) ?_
      refine AllReadyH.cons rfl (fun K hK => ?_) AllReadyH.nil
      go_simp
      go_at_call 106
      with_reducible refine (cD.out _ _ (HX.p hHeld |>.c 2)).mono ?_
      rintro e u4 ⟨rfl, hbz⟩
      try go_wp2_with fail
      refine hK.out _ _ (hHeld.next hbz) ?_
      clear hHeld hbz hK K
      intro hHeld
      try simp only [Act.put,pA,pB,pC,pD,pE,pF]
      apply tkJ 7
      apply tkJ 8
      apply tkJ 9
      apply tkJ 10
      apply tkJ 11
      apply tkJ 13
      apply tkJ 14
      refine wpAnyH_ready (rs := [12]) (by kernel_rfl) (by simp) ?_
      refine AllReadyH.cons rfl (fun K hK => ?_) AllReadyH.nil
      go_simp
      go_at_call 103
      with_reducible refine (lT.out _).mono ?_
      rintro e u5 ⟨rfl, hbz⟩
      try go_wp2_with fail
      refine hK.out _ _ (hHeld.next hbz) ?_
      clear hHeld hbz hK K
      intro hHeld
      try simp only [Act.put,pA,pB,pC,pD,pE,pF]
      refine wpAnyH_ready (rs := [15]) (by kernel_rfl) (by simp) ?_
      refine AllReadyH.cons rfl (fun K hK => ?_) AllReadyH.nil
      go_simp
      go_at_call 106
      with_reducible refine (cT.out _ _ (HX.p hHeld |>.c 2)).mono ?_
      rintro e u6 ⟨rfl, hbz⟩
      try go_wp2_with fail
      refine hK.out _ _ (hHeld.next hbz) ?_
      clear hHeld hbz hK K
      intro hHeld
      try simp only [Act.put,pA,pB,pC,pD,pE,pF]
      apply tkJ 16
      apply tkJ 17
      apply tkJ 18
      apply skJ 19
      apply skJ 20
      apply skJ 21
      apply skJ 22
      apply skJ 23
      apply skJ 24
      apply skJ 25
      apply skJ 26
      apply skJ 27
      apply skJ 28
      apply tkJ 29
      refine wpAnyH_done (by kernel_rfl) ?_ _
      go_wp2_with fail
      go_meet
      exact ⟨by first | rfl | simp, ⟨hHeld⟩⟩
    | true =>
      cases vT with
      | false =>
        refine wp_region_held_drew (S := HX w 25 34 w.heap.size (w.heap.size + 1) (.int .i64 p.f0) (.int .i64 p.f1) (.slice B2 n d2) (.slice B3 p.f3.length d3) (.int .i64 x.f0) (.int .i64 dev) (.int .i64 dto) (.int .i64 x.f3) (.slice A4 x.f4.length c4) (.int .u32 x.f5) (.int .u32 key) (.int .u32 tid) (.int .u64 lo) (.int .u64 hi) (.int .i64 x.f9) (.slice A11 x.f10.length c11) (.slice A12 x.f11.length c12)) (by kernel_rfl) (HZ.out.drew) (fun hHeld => ?_)
        apply tkJ 0
        apply tkJ 1
        apply tkJ 2
        apply tkJ 4
        apply tkJ 5
        refine wpAnyH_ready (rs := [3]) (by kernel_rfl) (by simp) ?_
        refine AllReadyH.cons rfl (fun K hK => ?_) AllReadyH.nil
        go_simp
        go_at_call 103
        with_reducible refine (lD.out _).mono ?_
        rintro e u7 ⟨rfl, hbz⟩
        try go_wp2_with fail
        refine hK.out _ _ (hHeld.next hbz) ?_
        clear hHeld hbz hK K
        intro hHeld
        try simp only [Act.put,pA,pB,pC,pD,pE,pF]
        refine wpAnyH_ready (rs := [6]) (by kernel_rfl) (by simp) ?_
        refine AllReadyH.cons rfl (fun K hK => ?_) AllReadyH.nil
        go_simp
        go_at_call 106
        with_reducible refine (cD.out _ _ (HX.p hHeld |>.c 2)).mono ?_
        rintro e u8 ⟨rfl, hbz⟩
        try go_wp2_with fail
        refine hK.out _ _ (hHeld.next hbz) ?_
        clear hHeld hbz hK K
        intro hHeld
        try simp only [Act.put,pA,pB,pC,pD,pE,pF]
        apply tkJ 7
        apply tkJ 8
        apply tkJ 9
        apply tkJ 10
        apply tkJ 11
        apply tkJ 13
        apply tkJ 14
        refine wpAnyH_ready (rs := [12]) (by kernel_rfl) (by simp) ?_
        refine AllReadyH.cons rfl (fun K hK => ?_) AllReadyH.nil
        go_simp
        go_at_call 103
        with_reducible refine (lT.out _).mono ?_
        rintro e u9 ⟨rfl, hbz⟩
        try go_wp2_with fail
        refine hK.out _ _ (hHeld.next hbz) ?_
        clear hHeld hbz hK K
        intro hHeld
        try simp only [Act.put,pA,pB,pC,pD,pE,pF]
        refine wpAnyH_ready (rs := [15]) (by kernel_rfl) (by simp) ?_
        refine AllReadyH.cons rfl (fun K hK => ?_) AllReadyH.nil
        go_simp
        go_at_call 106
        with_reducible refine (cT.out _ _ (HX.p hHeld |>.c 2)).mono ?_
        rintro e u10 ⟨rfl, hbz⟩
        try go_wp2_with fail
        refine hK.out _ _ (hHeld.next hbz) ?_
        clear hHeld hbz hK K
        intro hHeld
        try simp only [Act.put,pA,pB,pC,pD,pE,pF]
        apply tkJ 16
        apply tkJ 17
        apply tkJ 18
        apply tkJ 19
        apply tkJ 20
        refine wpAnyH_ready (rs := [21]) (by kernel_rfl) (by simp) ?_
        refine AllReadyH.cons rfl (fun K hK => ?_) AllReadyH.nil
        go_simp
        go_at_call 103
        with_reducible refine (lT.out _).mono ?_
        rintro e u11 ⟨rfl, hbz⟩
        try go_wp2_with fail
        refine hK.out _ _ (hHeld.next hbz) ?_
        clear hHeld hbz hK K
        intro hHeld
        try simp only [Act.put,pA,pB,pC,pD,pE,pF]
        apply tkJ 22
        apply skJ 23
        apply skJ 24
        apply skJ 25
        apply skJ 26
        apply skJ 27
        apply tkJ 28
        apply tkJ 29
        refine wpAnyH_done (by kernel_rfl) ?_ _
        go_wp2_with fail
        go_meet
        exact ⟨by first | rfl | simp, ⟨hHeld⟩⟩
      | true =>
        refine wp_region_held_drew (S := HX w 25 34 w.heap.size (w.heap.size + 1) (.int .i64 p.f0) (.int .i64 p.f1) (.slice B2 n d2) (.slice B3 p.f3.length d3) (.int .i64 x.f0) (.int .i64 dev) (.int .i64 dto) (.int .i64 x.f3) (.slice A4 x.f4.length c4) (.int .u32 x.f5) (.int .u32 key) (.int .u32 tid) (.int .u64 lo) (.int .u64 hi) (.int .i64 x.f9) (.slice A11 x.f10.length c11) (.slice A12 x.f11.length c12)) (by kernel_rfl) (HZ.out.drew) (fun hHeld => ?_)
        apply tkJ 0
        apply tkJ 1
        apply tkJ 2
        apply tkJ 4
        apply tkJ 5
        refine wpAnyH_ready (rs := [3]) (by kernel_rfl) (by simp) ?_
        refine AllReadyH.cons rfl (fun K hK => ?_) AllReadyH.nil
        go_simp
        go_at_call 103
        with_reducible refine (lD.out _).mono ?_
        rintro e u12 ⟨rfl, hbz⟩
        try go_wp2_with fail
        refine hK.out _ _ (hHeld.next hbz) ?_
        clear hHeld hbz hK K
        intro hHeld
        try simp only [Act.put,pA,pB,pC,pD,pE,pF]
        refine wpAnyH_ready (rs := [6]) (by kernel_rfl) (by simp) ?_
        refine AllReadyH.cons rfl (fun K hK => ?_) AllReadyH.nil
        go_simp
        go_at_call 106
        with_reducible refine (cD.out _ _ (HX.p hHeld |>.c 2)).mono ?_
        rintro e u13 ⟨rfl, hbz⟩
        try go_wp2_with fail
        refine hK.out _ _ (hHeld.next hbz) ?_
        clear hHeld hbz hK K
        intro hHeld
        try simp only [Act.put,pA,pB,pC,pD,pE,pF]
        apply tkJ 7
        apply tkJ 8
        apply tkJ 9
        apply tkJ 10
        apply tkJ 11
        apply tkJ 13
        apply tkJ 14
        refine wpAnyH_ready (rs := [12]) (by kernel_rfl) (by simp) ?_
        refine AllReadyH.cons rfl (fun K hK => ?_) AllReadyH.nil
        go_simp
        go_at_call 103
        with_reducible refine (lT.out _).mono ?_
        rintro e u14 ⟨rfl, hbz⟩
        try go_wp2_with fail
        refine hK.out _ _ (hHeld.next hbz) ?_
        clear hHeld hbz hK K
        intro hHeld
        try simp only [Act.put,pA,pB,pC,pD,pE,pF]
        refine wpAnyH_ready (rs := [15]) (by kernel_rfl) (by simp) ?_
        refine AllReadyH.cons rfl (fun K hK => ?_) AllReadyH.nil
        go_simp
        go_at_call 106
        with_reducible refine (cT.out _ _ (HX.p hHeld |>.c 2)).mono ?_
        rintro e u15 ⟨rfl, hbz⟩
        try go_wp2_with fail
        refine hK.out _ _ (hHeld.next hbz) ?_
        clear hHeld hbz hK K
        intro hHeld
        try simp only [Act.put,pA,pB,pC,pD,pE,pF]
        apply tkJ 16
        apply tkJ 17
        apply tkJ 18
        apply tkJ 19
        apply tkJ 20
        refine wpAnyH_ready (rs := [21]) (by kernel_rfl) (by simp) ?_
        refine AllReadyH.cons rfl (fun K hK => ?_) AllReadyH.nil
        go_simp
        go_at_call 103
        with_reducible refine (lT.out _).mono ?_
        rintro e u16 ⟨rfl, hbz⟩
        try go_wp2_with fail
        refine hK.out _ _ (hHeld.next hbz) ?_
        clear hHeld hbz hK K
        intro hHeld
        try simp only [Act.put,pA,pB,pC,pD,pE,pF]
        apply tkJ 22
        apply tkJ 23
        apply tkJ 24
        apply tkJ 25
        apply tkJ 26
        apply tkJ 27
        apply tkJ 28
        apply tkJ 29
        refine wpAnyH_done (by kernel_rfl) ?_ _
        go_wp2_with fail
        go_meet
        exact ⟨by first | rfl | simp, ⟨hHeld⟩⟩
 case rest =>
  obtain ⟨rfl, HY⟩ := hcut
  clear HZ lD cD cT lT e3
  have hR2 : R = (i1 && (i2 && !(vT && z3)) && (!(!vK && key != 0 || (!vI && tid != 0)) && (if vR = true then b1 else lo == 0 && hi == 0))) := by
   rw [<- HR.out]
   cases i1 <;> cases i2 <;> cases vT <;> cases z3 <;> rfl
  have HR2 := Lib.hid hR2
  clear hR2 HR
  generalize (i1 && (i2 && !(vT && z3))) = c2 at *
  cases c2 with
  | false =>
    go_wp2
    go_ret
    exact boolB_i (by rw [HR2.out]; rfl) HY.out.x.hb
  | true =>
  go_upto_region 4 with fail
  obtain ⟨z1, e1⟩ : ∃ b, (key != 0) = b := ⟨_, rfl⟩
  obtain ⟨z2, e2⟩ : ∃ b, (tid != 0) = b := ⟨_, rfl⟩
  have HR3 := Lib.hid (show R = (!(!vK && z1 || (!vI && z2)) && (if vR = true then b1 else lo == 0 && hi == 0)) by rw [HR2.out, e1, e2]; rfl)
  clear HR2
  go_cut [56] (fun s56 wx => s56 = .bool (!vK && z1 || (!vI && z2)) /\ Zz (HX w 25 34 w.heap.size (w.heap.size + 1) (.int .i64 p.f0) (.int .i64 p.f1) (.slice B2 n d2) (.slice B3 p.f3.length d3) (.int .i64 x.f0) (.int .i64 dev) (.int .i64 dto) (.int .i64 x.f3) (.slice A4 x.f4.length c4) (.int .u32 x.f5) (.int .u32 key) (.int .u32 tid) (.int .u64 lo) (.int .u64 hi) (.int .i64 x.f9) (.slice A11 x.f10.length c11) (.slice A12 x.f11.length c12) wx))
  case first =>
   have q0 := HY.out.x.c 0
   have q6 := HY.out.x.c 6
   have q7 := HY.out.x.c 7
   go_wp2_with (first
    | (go_at_call 103
       first
       | (with_reducible refine (lK.out _).mono ?_)
       | (with_reducible refine (lI.out _).mono ?_)
       rintro e v ⟨rfl, hb⟩
       replace HY := Zz.mk (HY.out.next hb)
       clear hb
       have q0 := HY.out.x.c 0
       have q6 := HY.out.x.c 6
       have q7 := HY.out.x.c 7)
    | fail)
   all_goals
    go_meet
    refine ⟨congrArg Value.bool ?_, HY⟩
    clear HY HR3 lK lI lR cM q0 q6 q7 e1 e2
    simp_all
  case rest =>
  obtain ⟨rfl, HZ⟩ := hcut
  clear HY e1 e2
  generalize (!vK && z1 || (!vI && z2)) = c4 at *
  cases c4 with
  | true =>
    go_wp2
    go_ret
    exact boolB_i (by rw [HR3.out]; rfl) HZ.out.x.hb
  | false =>
    have q0 := HZ.out.x.c 0
    have q8 := HZ.out.x.c 8
    have q9 := HZ.out.x.c 9
    go_wp2_with (first
     | (go_at_call 103
        with_reducible refine (lR.out _).mono ?_
        rintro e v ⟨rfl, hb⟩
        replace HZ := Zz.mk (HZ.out.next hb)
        clear hb
        have HA := Zz.mk (HZ.out.x.push (.cells #[.int .u64 lo, .int .u64 hi] 30))
        have m0 : (v.alloc (.cells #[.int .u64 lo, .int .u64 hi] 30)).cell? ⟨v.heap.size, 0, none⟩ = some (.int .u64 lo) := (HZ.out.x.on [.int .u64 lo, .int .u64 hi] 30).c 0
        have m1 : (v.alloc (.cells #[.int .u64 lo, .int .u64 hi] 30)).cell? ⟨v.heap.size, 1, none⟩ = some (.int .u64 hi) := (HZ.out.x.on [.int .u64 lo, .int .u64 hi] 30).c 1
        have q0 := HZ.out.x.c 0
        have q8 := HZ.out.x.c 8
        have q9 := HZ.out.x.c 9)
     | (go_at_call 107
        with_reducible refine (cM.out _ _ m0 m1).mono ?_
        rintro e v2 ⟨rfl, hb⟩
        replace HA := Zz.mk (HA.out.next hb)
        clear hb)
     | fail)
    all_goals
     go_ret
     refine boolB_i ?_ (by first | exact HA.out.hb | exact HZ.out.x.hb)
     rw [HR3.out]
     clear HZ HA HR3 lK lI lR cM q0 q8 q9 m0 m1
     simp_all
end Go.Proofs.YtpdinahdcedmkaaGreatDoor.Ext
namespace Go.Proofs.YtpdinahdcedmkaaGreatDoor.Ext
open Go.Proofs.YtpdinahdcedmkaaGreatDoor.P
open Go.RowKit YtpdinahdcedmkaaGreatDoorW.PrintWords YtpdinahdcedmkaaGreatDoorW.PrintLast YtpdinahdcedmkaaGreatDoorW.PrintMore Go.Proofs.YtpdinahdcedmkaaGreatDoor.Spec
theorem c_sized (x : Act) (cs : List Value) (w : World) (hK : k34.K w x cs) :
 Calls Tryz.prog 65 #[.agg cs.toArray] w (BoolB (sizedS x.f0 x.f10.length x.f9 x.f11.length) w) := by
 obtain ⟨A4, c4, A11, c11, A12, c12, rfl, l4, g4, l11, g11, l12, g12⟩ := k34_open hK
 exact script_sized.calls x.f0 x.f1 x.f2 x.f3 A4 c4 x.f4 x.f5 x.f6 x.f7 x.f8.f0 x.f8.f1 x.f9 A11 c11 x.f10 A12 c12 x.f11 _ w g4 l4 g11 l11 g12 l12 rfl
def mayS (n : Nat) (x : Act) : Bool := !(rowOf x.f0).1.toList.isEmpty && (keyedS x && (sizedS x.f0 x.f10.length x.f9 x.f11.length && placedS n x))
theorem c_may (p : Plan) (x : Act) (cp cs : List Value) (w : World) (hP : k25.K w p cp) (hK : k34.K w x cs) (hx : ActBd x) :
 Calls Tryz.prog 25 #[.agg cp.toArray, .agg cs.toArray] w (BoolB (mayS p.f2.length x) w) := by
 have cN := Lib.hid (fun W => c_SName x.f0 W)
 have cQ := Lib.hid (fun W (hW : Below w.heap.size w W) => c_keyed x cs W (k34.K_below hW hK) hx)
 have cZ := Lib.hid (fun W (hW : Below w.heap.size w W) => c_sized x cs W (k34.K_below hW hK))
 have cP := Lib.hid (fun W (hW : Below w.heap.size w W) => c_placed p x cp cs W (k25.K_below hW hP) (k34.K_below hW hK))
 have P0 := Zz.mk ((Bx.new w cp 25).push (.cells cs.toArray 34))
 have X0 := Zz.mk ((Bx.new w cp 25).on cs 34 |>.at_ (show _ = w.heap.size + 1 by simp))
 obtain ⟨A4, c4, A11, c11, A12, c12, rfl, l4, g4, l11, g11, l12, g12⟩ := k34_open hK
 obtain ⟨B2, d2, B3, d3, rfl, m2, e2, m3, e3⟩ := k25_open hP
 clear hP hK hx g4 g11 g12 l4 l11 l12 m2 e2 m3 e3
 obtain ⟨R, hR⟩ : ∃ R, mayS p.f2.length x = R := ⟨_, rfl⟩
 rw [hR]
 unfold mayS at hR
 generalize keyedS x = bK at *
 generalize sizedS x.f0 x.f10.length x.f9 x.f11.length = bZ at *
 generalize placedS p.f2.length x = bP at *
 have HR := Lib.hid hR
 clear hR
 have HZ := Zz.mk (hx_mk P0.out X0.out)
 clear P0 X0
 obtain ⟨q0, q1, q2, q3, q4, q5, q6, q7, q8, q9, q10, q11, q12⟩ := cxs13 HZ.out.x
 obtain ⟨r0, r1, r2, r3⟩ := cxs4 HZ.out.p
 go_enter Tryz.func25, Tryz.ntmps25
 go_wp2_with (first
  | (go_at_call 63
     with_reducible refine (cN.out _).mono ?_
     rintro e v ⟨rfl, hb⟩
     replace HZ := Zz.mk (HZ.out.next hb)
     clear hb
     obtain ⟨q0, q1, q2, q3, q4, q5, q6, q7, q8, q9, q10, q11, q12⟩ := cxs13 HZ.out.x
     have r0 := HZ.out.p.c 0
     have r1 := HZ.out.p.c 1
     have r2 := HZ.out.p.c 2
     have r3 := HZ.out.p.c 3)
  | (go_at_call 64
     with_reducible refine (cQ.out _ HZ.out.x.hb).mono ?_
     rintro e v ⟨rfl, hb⟩
     replace HZ := Zz.mk (HZ.out.next hb)
     clear hb
     obtain ⟨q0, q1, q2, q3, q4, q5, q6, q7, q8, q9, q10, q11, q12⟩ := cxs13 HZ.out.x
     have r0 := HZ.out.p.c 0
     have r1 := HZ.out.p.c 1
     have r2 := HZ.out.p.c 2
     have r3 := HZ.out.p.c 3)
  | (go_at_call 65
     with_reducible refine (cZ.out _ HZ.out.x.hb).mono ?_
     rintro e v ⟨rfl, hb⟩
     replace HZ := Zz.mk (HZ.out.next hb)
     clear hb
     obtain ⟨q0, q1, q2, q3, q4, q5, q6, q7, q8, q9, q10, q11, q12⟩ := cxs13 HZ.out.x
     have r0 := HZ.out.p.c 0
     have r1 := HZ.out.p.c 1
     have r2 := HZ.out.p.c 2
     have r3 := HZ.out.p.c 3)
  | (go_at_call 66
     with_reducible refine (cP.out _ HZ.out.x.hb).mono ?_
     rintro e v ⟨rfl, hb⟩
     replace HZ := Zz.mk (HZ.out.next hb)
     clear hb)
  | fail)
 all_goals
  go_ret
  refine boolB_i ?_ HZ.out.x.hb
  rw [<- HR.out]
  clear HR HZ cN cQ cZ cP q0 q1 q2 q3 q4 q5 q6 q7 q8 q9 q10 q11 q12 r0 r1 r2 r3
  simp_all
structure PlanBd (p : Plan) : Prop where
 few : p.f2.length <= 1048576
 small : ∀ i, (p.f2.getD i ByteArray.empty).size <= 140737488351232
 acts : ∀ i, ActBd (p.f3.getD i z34)
theorem c_head (p : Plan) (cp : List Value) (w : World) (hP : k25.K w p cp) (hp : PlanBd p) :
 Calls Tryz.prog 24 #[.agg cp.toArray] w (BoolB (headedS p.f0 p.f1 p.f2) w) := by
 obtain ⟨B2, d2, B3, d3, rfl, m2, e2, m3, e3⟩ := k25_open hP
 exact c_headed p.f0 p.f1 B2 d2 p.f2 B3 p.f3.length d3 w e2 m2 hp.few hp.small
def actsS (n : Nat) (l : List Act) : Bool := l.all (mayS n)
theorem drop_cons34 (l : List Act) (i : Nat) (h : i < l.length) : l.drop i = l.getD i z34 :: l.drop (i + 1) := by
 rw [List.drop_eq_getElem_cons h]
 congr 1
 rw [List.getD_eq_getElem?_getD, List.getElem?_eq_getElem h]
 rfl
def checkS (p : Plan) : Bool := headedS p.f0 p.f1 p.f2 && (decide (p.f3.length <= 400) && actsS p.f2.length p.f3)
end Go.Proofs.YtpdinahdcedmkaaGreatDoor.Ext
namespace Go.Proofs.YtpdinahdcedmkaaGreatDoor.Ext
open Go.RowKit YtpdinahdcedmkaaGreatDoorW.PrintWords YtpdinahdcedmkaaGreatDoorW.PrintLast YtpdinahdcedmkaaGreatDoorW.PrintMore
def runeL (l : List (Nat × Nat × Nat)) : List Int := l.map fun x => (x.2.1 : Int)
theorem own_int {w : World} {base : Nat} {v : Value} {k : IntKind} {e : Nat} {l : List Int} (h : w.ownsRow base e 1 v l.length (nums k l)) : Kd.R (Kd.int k) e w base (fun _ => True) v l := by
 refine ⟨fun _ _ => trivial, nums k l, h, ?_, fun j p hj => ?_⟩
 · show _ = _ * 1
   simp [nums]
 · show ((nums k l).drop (j * 1)).take 1 = [Value.int k p]
   rw [Nat.mul_one]
   have hlt : j < l.length := by
    rcases Nat.lt_or_ge j l.length with h | h
    · exact h
    · rw [List.getElem?_eq_none h] at hj; cases hj
   rw [List.getElem?_eq_getElem hlt] at hj
   obtain rfl := Option.some.inj hj
   rw [List.drop_eq_getElem_cons (by simpa [nums] using hlt)]
   simp [nums]
theorem info_i32 : (Tryz.prog.info? 21).map (fun i => (i.zero, i.size, i.bytes)) = some (some (.int .i32 0), 1, 4) := by kernel_rfl
def RunesPost (w : World) (l : List Int) (e : Ending) (w' : World) : Prop := ∃ v, e = .returned v /\ Kd.R (Kd.int .i32) 21 w' w.heap.size (fun _ => True) v l /\ Below w.heap.size w w'
theorem rrunes_walk (T : ByteArray) (w : World) (hz : T.size <= 1073741824) :
 Calls Tryz.prog 112 #[.string T] w (RunesPost w (runeL (runesOf T))) := by
 obtain ⟨i0, hi, hz0, hz1, hz2⟩ := info_parts info_i32
 have HPK := Zz.mk (show runeL (runesOf T) = runeL (runesOf T) from rfl)
 generalize hU : runeL (runesOf T) = U at *
 replace HPK := Zz.mk hU
 clear hU
 go_enter Tryz.func112, Tryz.ntmps112
 go_wp2
 go_loopw [3] (fun v3 wr => ∃ (pos fuel : Nat) (L : List Int), wr.heap[w.heap.size + 1]? = some (.stringIter T pos) /\ Zz (wr.ownsRow w.heap.size 21 1 v3 L.length (nums .i32 L)) /\ Zz (L ++ runeL (rns T fuel pos) = runeL (runesOf T) /\ T.size <= pos + fuel /\ pos <= T.size) /\ L.length <= pos /\ Zz (Below w.heap.size w wr)) (fun _ wr => T.size - wr.iterPos (w.heap.size + 1))
 case atStart =>
  refine ⟨0, T.size, [], ?_, ⟨?_⟩, ⟨rfl, by omega, by omega⟩, by simp, ⟨((Below.refl _ _).alloc (Nat.le_refl _) _).alloc (by simp) _⟩⟩
  · have := iter_new (w.alloc (.cells #[] 21)) T
    simpa using this
  · exact (World.ownsRow_lit (base := w.heap.size) (e := 21) (size := 1) w #[] 0 (Nat.le_refl _) (by simp [maxLen]) (by simp)).alloc _
 case round =>
  obtain ⟨pos, fuel, L, hit, HO, HL, hLp, HB⟩ := hrel
  by_cases hp : pos < T.size
  · have hw1 := Lib.decode_width_pos T pos hp
    have hwl := width_le T pos hp
    have hnx := fun ty => Lib.run_next_any_at (P := Tryz.prog) wr (w.heap.size + 1) T pos ty hit hp
    obtain ⟨f2, hf2, he2⟩ := rns_step T fuel pos hp HL.out.2.1
    have HI := Zz.mk (Lib.iterAt_heap wr (w.heap.size + 1) T pos (pos + (Utf8.decode T pos).2) hit)
    have HM0 := iter_less hw1 hit hp
    have HMM : Zz (T.size - (pos + (Utf8.decode T pos).2) < T.size - wr.iterPos (w.heap.size + 1)) := ⟨by rwa [iterPos_of HI.out] at HM0⟩
    have HOI := Zz.mk (row_iterAt HO.out hit (pos + (Utf8.decode T pos).2))
    have HBI := Zz.mk (Lib.below_iterAt HB.out (show w.heap.size <= w.heap.size + 1 by omega) T (pos + (Utf8.decode T pos).2))
    have HL2 : Zz ((L ++ [((Utf8.decode T pos).1 : Int)]) ++ runeL (rns T f2 (pos + (Utf8.decode T pos).2)) = runeL (runesOf T)) := ⟨by have := HL.out.1; rw [he2] at this; simpa [runeL] using this⟩
    clear HM0 HO HB HL he2
    generalize hd : Utf8.decode T pos = d at *
    obtain ⟨r, wd⟩ := d
    simp only at *
    have hwl1 := hwl.1
    have HF := Zz.mk hf2
    have hgi := HBI.out.size
    clear hd hf2
    generalize hWI : wr.iterAt (w.heap.size + 1) T (pos + wd) = wi at *
    go_wp2_with (first
     | (at_builtin
        refine wpList_append_own _ rfl _ _ 119 rfl w.heap.size 21 i0 _ 1 4 Tryz.underlying119 hi hz0 hz1 hz2 rfl (by decide) _ _ _ rfl (HOI.out.alloc _) ⟨wi.heap.size, 0, none⟩ 1 1 [.int .i32 (r : Int)] rfl rfl (World.news_of_block (cs := #[.int .i32 (r : Int)]) (t := 21) (fr := (0, 0)) (heap_alloc_new _ _)) (by simp [Value.oneCell']) (by simp only [maxLen]; omega) (by omega) (by simp; omega) ?_
        intro v3 w3 hown3 hg3 hx3
        clear hx3
        have HI3 := Zz.mk (iter_grown (HOI.out.alloc _) hg3 (iter_alloc HI.out _))
        have HB3 := Zz.mk ((HBI.out.alloc HBI.out.size _).grown hg3 (by have hz9 := HBI.out.size; simp; omega) (fun k hk => own_base HOI.out k hk))
        have HO3 := Zz.mk hown3
        clear hown3 hg3))
    go_roundw
    case rel => exact ⟨pos + wd, f2, L ++ [(r : Int)], HI3.out, ⟨by simpa [nums] using HO3.out⟩, ⟨HL2.out, HF.out, hwl1⟩, by simp; omega, HB3⟩
    case measure => rw [iterPos_of HI3.out]; exact HMM.out
  · have hnx := fun ty => Lib.run_next_end_at (P := Tryz.prog) wr (w.heap.size + 1) T pos ty hit hp
    obtain rfl : L = U := by have := HL.out.1; rw [rns_end T fuel pos hp] at this; rw [<- HPK.out, <- this]; simp [runeL]
    go_wp2
    go_ret
    exact ⟨_, rfl, own_int HO.out, HB.out⟩
def slashI (s : ByteArray) : Int := Lib.indexByte s.data.toList 47
def slashS (s : ByteArray) : ByteArray × ByteArray := if 0 <= slashI s then (s.extract 0 (slashI s).toNat, s.extract ((slashI s).toNat + 1) s.size) else (s, ⟨#[]⟩)
theorem c_lcut (s : ByteArray) (w : World) (hs : s.size <= 140737488351232) (hlt : slashI s < (s.size : Int)) :
 Calls Tryz.prog 100 #[.string s, .string ⟨#[47]⟩] w fun e w' => e = .returned (.tuple #[.string (slashS s).1, .string (slashS s).2, .bool (decide (0 <= slashI s))]) /\ Below w.heap.size w w' := by
 have ci := Lib.hid (fun W => Tryz.stringslite_Index_one s 47 W)
 unfold slashS
 rw [show Lib.indexByte s.data.toList 47 = slashI s from rfl] at ci
 by_cases h0 : 0 <= slashI s
 · obtain ⟨i, hi⟩ := Int.eq_ofNat_of_zero_le h0
   rw [if_pos h0, decide_eq_true h0]
   rw [hi] at ci ⊢
   rw [Int.toNat_natCast]
   have c1 : (0 : Int) <= (i : Int) := by omega
   have c2 : (i : Int) <= (s.size : Int) := by omega
   have c3 : (0 : Int) <= (i : Int) + 1 := by omega
   have c4 : (i : Int) + 1 <= (s.size : Int) := by omega
   clear h0 hlt hi
   go_enter Tryz.func100, Tryz.ntmps100
   go_wp2_with (first
    | (go_at_call 132
       refine (ci.out _).mono ?_
       rintro e v ⟨rfl, hv⟩
       obtain rfl := hv.symm)
    | fail)
   go_region
   go_wp2
   go_ret3
   exact ⟨rfl, Below.drew (Below.refl _ _)⟩
 · rw [if_neg h0, decide_eq_false h0]
   have c1 : slashI s < 0 := by omega
   generalize slashI s = i at *
   clear h0 hlt
   go_enter Tryz.func100, Tryz.ntmps100
   go_wp2_with (first
    | (go_at_call 132
       refine (ci.out _).mono ?_
       rintro e v ⟨rfl, hv⟩
       obtain rfl := hv.symm)
    | fail)
   go_ret3
   exact ⟨rfl, Below.refl _ _⟩
theorem c_Cut (s : ByteArray) (w : World) (hs : s.size <= 140737488351232) (hlt : slashI s < (s.size : Int)) :
 Calls Tryz.prog 54 #[.string s, .string ⟨#[47]⟩] w fun e w' => e = .returned (.tuple #[.string (slashS s).1, .string (slashS s).2, .bool (decide (0 <= slashI s))]) /\ Below w.heap.size w w' := by
 have ci := Lib.hid (fun W => c_lcut s W hs hlt)
 generalize slashS s = x at *
 generalize decide (0 <= slashI s) = z at *
 clear hs hlt
 go_enter Tryz.func54, Tryz.ntmps54
 go_wp2_with (first
  | (go_at_call 100
     refine (ci.out _).mono ?_
     rintro e v ⟨rfl, hb⟩)
  | fail)
 go_ret3
 exact ⟨rfl, hb⟩
theorem byte_of (z : Nat) (x : UInt8) (h : z = x.toNat) : UInt8.ofNat z = x := by subst h; simp
theorem enc1 (c : Nat) (h : c < 128) : Utf8.encode (c : Int) = ⟨#[UInt8.ofNat c]⟩ := by
 unfold Utf8.encode
 have hv : Utf8.valid (c : Int) = true := by simp [Utf8.valid]; omega
 simp only [hv, if_true, Int.toNat_natCast, if_pos h]
theorem enc2 (c : Nat) (h : 128 <= c) (h2 : c < 2048) : Utf8.encode (c : Int) = ⟨#[UInt8.ofNat (192 + c / 64), UInt8.ofNat (128 + c % 64)]⟩ := by
 unfold Utf8.encode
 have hv : Utf8.valid (c : Int) = true := by simp [Utf8.valid]; omega
 simp only [hv, if_true, Int.toNat_natCast, if_neg (show ¬ c < 128 by omega), if_pos h2]
theorem enc3 (c : Nat) (h : 2048 <= c) (h2 : c < 65536) (hs : c < 55296 \/ 57344 <= c) : Utf8.encode (c : Int) = ⟨#[UInt8.ofNat (224 + c / 4096), UInt8.ofNat (128 + c / 64 % 64), UInt8.ofNat (128 + c % 64)]⟩ := by
 unfold Utf8.encode
 have hv : Utf8.valid (c : Int) = true := by simp [Utf8.valid]; omega
 simp only [hv, if_true, Int.toNat_natCast, if_neg (show ¬ c < 128 by omega), if_neg (show ¬ c < 2048 by omega), if_pos h2]
theorem enc4 (c : Nat) (h : 65536 <= c) (h2 : c <= 1114111) : Utf8.encode (c : Int) = ⟨#[UInt8.ofNat (240 + c / 262144), UInt8.ofNat (128 + c / 4096 % 64), UInt8.ofNat (128 + c / 64 % 64), UInt8.ofNat (128 + c % 64)]⟩ := by
 unfold Utf8.encode
 have hv : Utf8.valid (c : Int) = true := by simp [Utf8.valid]; omega
 simp only [hv, if_true, Int.toNat_natCast, if_neg (show ¬ c < 128 by omega), if_neg (show ¬ c < 2048 by omega), if_neg (show ¬ c < 65536 by omega)]
theorem enc_dec (s : ByteArray) (pos : Nat) (hp : pos < s.size) (hv : ¬ ((Utf8.decode s pos).1 = 65533 /\ (Utf8.decode s pos).2 = 1)) :
 Utf8.encode ((Utf8.decode s pos).1 : Int) = s.extract pos (pos + (Utf8.decode s pos).2) := by
 have hx : ∀ n, (s.extract pos (pos + n)).data.toList = (s.data.toList.drop pos).take n := by
  intro n
  simp [ByteArray.data_extract, Array.toList_extract, List.extract]
 apply ByteArray.ext
 rw [<- Array.toList_inj, hx]
 rw [<- Lib.decodeL_drop] at hv ⊢
 have hl : 0 < (s.data.toList.drop pos).length := by rw [List.length_drop]; have : s.data.toList.length = s.size := rfl; omega
 generalize s.data.toList.drop pos = l at *
 rw [Lib.decodeL_N] at hv ⊢
 have k0 := (l.getD 0 0).toNat_lt
 have k1 := (l.getD 1 0).toNat_lt
 have k2 := (l.getD 2 0).toNat_lt
 have k3 := (l.getD 3 0).toNat_lt
 rcases Lib.decodeN_shape l.length (l.getD 0 0).toNat (l.getD 1 0).toNat (l.getD 2 0).toNat (l.getD 3 0).toNat with ⟨c, e⟩ | ⟨c1, c2, c3, cv, e⟩ | ⟨c1, c2, c3, c4, cv, cs, e⟩ | ⟨c1, c2, c3, c4, c5, cv, cw, e⟩ | e
 · rw [e]
   dsimp only
   rw [enc1 _ c, Lib.takeA l hl, byte_of _ (l.getD 0 0) rfl]
 · rw [e]
   dsimp only
   rw [enc2 _ (by omega) (by omega), Lib.takeB l c2, byte_of _ (l.getD 0 0) (by omega), byte_of _ (l.getD 1 0) (by omega)]
 · rw [e]
   dsimp only
   rw [enc3 _ (by omega) (by omega) cs, Lib.takeC l c2, byte_of _ (l.getD 0 0) (by omega), byte_of _ (l.getD 1 0) (by omega), byte_of _ (l.getD 2 0) (by omega)]
 · rw [e]
   dsimp only
   rw [enc4 _ (by omega) (by omega), Lib.takeD l c2, byte_of _ (l.getD 0 0) (by omega), byte_of _ (l.getD 1 0) (by omega), byte_of _ (l.getD 2 0) (by omega), byte_of _ (l.getD 3 0) (by omega)]
 · rw [e] at hv
   exact absurd ⟨rfl, rfl⟩ hv
def brokenS (s : ByteArray) (pos : Nat) : Bool := decide (128 <= (s.data.toList.getD pos 0).toNat) && (!(decide (3 <= s.size - pos) && decide (s.extract pos (pos + 3) = ⟨#[239, 191, 189]⟩)) && ((Utf8.decode s pos).1 == 65533))
theorem broken_eq (s : ByteArray) (pos : Nat) (hp : pos < s.size) : brokenS s pos = decide ((Utf8.decode s pos).1 = 65533 /\ (Utf8.decode s pos).2 = 1) := by
 by_cases hv : (Utf8.decode s pos).1 = 65533 /\ (Utf8.decode s pos).2 = 1
 · rw [decide_eq_true hv]
   unfold brokenS
   have h128 : 128 <= (s.data.toList.getD pos 0).toNat := by
    rcases Nat.lt_or_ge (s.data.toList.getD pos 0).toNat 128 with h | h
    · have e := Lib.decode_N s pos
      unfold Lib.decodeN at e
      rw [if_pos h] at e
      rw [e] at hv
      simp only at hv
      omega
    · exact h
   have h3 : (decide (3 <= s.size - pos) && decide (s.extract pos (pos + 3) = (⟨#[239, 191, 189]⟩ : ByteArray))) = false := by
    rw [Bool.and_eq_false_iff]
    by_cases hs : 3 <= s.size - pos
    · right
      apply decide_eq_false
      intro he
      have hd : (s.data.toList.drop pos).take 3 = [239, 191, 189] := by
       have hx : (s.extract pos (pos + 3)).data.toList = (s.data.toList.drop pos).take 3 := by
        simp [ByteArray.data_extract, Array.toList_extract, List.extract]
       rw [<- hx, he]
      rw [<- Lib.decodeL_drop, Lib.decodeL_N] at hv
      have hl : (s.data.toList.drop pos).length = s.size - pos := by rw [List.length_drop]; rfl
      rw [hl] at hv
      generalize s.data.toList.drop pos = l at *
      rw [Lib.takeC l (by omega)] at hd
      simp only [List.cons.injEq, and_true] at hd
      rw [hd.1, hd.2.1, hd.2.2] at hv
      have : Lib.decodeN (s.size - pos) 239 191 189 (l.getD 3 0).toNat = (65533, 3) := by
       unfold Lib.decodeN
       rw [if_neg (by omega), if_neg (by omega), if_pos (by omega), if_pos (by omega)]
      have e2 : Lib.decodeN (s.size - pos) (239 : UInt8).toNat (191 : UInt8).toNat (189 : UInt8).toNat (l.getD 3 0).toNat = (65533, 3) := this
      rw [e2] at hv
      simp at hv
    · left
      exact decide_eq_false hs
   rw [decide_eq_true h128, h3, hv.1]
   rfl
 · rw [decide_eq_false hv]
   unfold brokenS
   by_cases hr : (Utf8.decode s pos).1 = 65533
   · have he := enc_dec s pos hp hv
     rw [hr] at he
     have hE : Utf8.encode ((65533 : Nat) : Int) = ⟨#[239, 191, 189]⟩ := by decide +kernel
     rw [hE] at he
     have hw : (Utf8.decode s pos).2 = 3 := by
      rw [Lib.decode_N] at hr ⊢
      have k0 := (s.data.toList.getD pos 0).toNat_lt
      have k1 := (s.data.toList.getD (pos + 1) 0).toNat_lt
      have hv' := hv
      rw [Lib.decode_N] at hv'
      rcases Lib.decodeN_shape (s.data.toList.length - pos) (s.data.toList.getD pos 0).toNat (s.data.toList.getD (pos + 1) 0).toNat (s.data.toList.getD (pos + 2) 0).toNat (s.data.toList.getD (pos + 3) 0).toNat with ⟨c, e⟩ | ⟨c1, c2, c3, cv, e⟩ | ⟨c1, c2, c3, c4, cv, cs, e⟩ | ⟨c1, c2, c3, c4, c5, cv, cw, e⟩ | e
      all_goals rw [e] at hr hv' ⊢
      all_goals simp only at hr hv' ⊢
      · omega
      · omega
      · omega
      · exact absurd ⟨trivial, trivial⟩ hv'
     rw [hw] at he
     have hsz := congrArg ByteArray.size he
     rw [ByteArray.size_extract] at hsz
     have h3 : 3 <= s.size - pos := by
      have : (⟨#[239, 191, 189]⟩ : ByteArray).size = 3 := rfl
      omega
     rw [<- he, decide_eq_true h3, decide_eq_true rfl]
     simp
   · have : ((Utf8.decode s pos).1 == 65533) = false := beq_eq_false_iff_ne.2 hr
     rw [this]
     simp
theorem decode_cut (s : ByteArray) (pos : Nat) : Utf8.decode (s.extract pos s.size) 0 = Utf8.decode s pos := by
 rw [<- Lib.decodeL_drop s pos]
 unfold Lib.decodeL
 have : (s.extract pos s.size) = ⟨(s.data.toList.drop pos).toArray⟩ := by
  have h1 := Lib.extract_to_end s pos
  apply ByteArray.ext
  rw [<- Array.toList_inj, h1]
 rw [this]
theorem runes_head (s : ByteArray) (pos : Nat) (hp : pos < s.size) : ∃ t, runeL (runesOf (s.extract pos s.size)) = ((Utf8.decode s pos).1 : Int) :: t := by
 have hz : 0 < (s.extract pos s.size).size := by rw [ByteArray.size_extract]; omega
 obtain ⟨f', _, e⟩ := rns_step (s.extract pos s.size) (s.extract pos s.size).size 0 hz (by omega)
 refine ⟨runeL (rns (s.extract pos s.size) f' (0 + (Utf8.decode (s.extract pos s.size) 0).2)), ?_⟩
 unfold runesOf
 rw [e, <- decode_cut s pos]
 rfl
theorem natb (r : Nat) : ((r : Int) == 65533) = (r == 65533) := by rw [Bool.eq_iff_iff]; simp; omega
theorem sl3 (s : ByteArray) (pos : Nat) (h : pos + 3 <= s.size) : ∀ W, (Instr.slice 9 (.string s) (some (.int .i64 (pos : Int))) (some (.int .i64 ((pos : Int) + 3))) none).run Tryz.prog W = .ok (.string (s.extract pos (pos + 3))) W := by
 intro W
 have := run_slice_string (P := Tryz.prog) (w := W) 9 s .i64 .i64 (pos : Int) ((pos : Int) + 3) Tryz.underlying9 (by omega) (by omega) (by omega)
 rw [this, show ((pos : Int) + 3).toNat = pos + 3 by omega, Int.toNat_natCast]
theorem r_broken (s : ByteArray) (pos : Nat) (w : World) (hp : pos < s.size) (hs : s.size <= 1073741824) :
 Calls Tryz.prog 95 #[.string s, .int .i64 pos] w fun e w' => e = .returned (.bool (brokenS s pos)) /\ Below w.heap.size w w' := by
 have ix := idx_str s pos hp
 have hbt := bt_list s pos hp
 have hbr := bt_range s pos
 have cR := fun W => rrunes_walk (s.extract pos s.size) W (by rw [ByteArray.size_extract]; omega)
 obtain ⟨t, ht⟩ := runes_head s pos hp
 rw [ht] at cR
 unfold RunesPost at cR
 obtain ⟨R, hR⟩ : ∃ R, brokenS s pos = R := ⟨_, rfl⟩
 rw [hR]
 unfold brokenS at hR
 generalize (Utf8.decode s pos).1 = r at *
 have cR := Lib.hid cR
 by_cases h1 : (128 : Int) <= bt s pos
 · rw [decide_eq_true (show 128 <= (s.data.toList.getD pos 0).toNat by omega), Bool.true_and] at hR
   clear hbt ht
   have hb1 := hbr.2
   generalize bt s pos = b at *
   clear hbr
   have hpi : (pos : Int) < (s.size : Int) := by omega
   have hsi : (s.size : Int) <= 1073741824 := by omega
   by_cases h3 : 3 <= s.size - pos
   · have hw1 : (3 : Int) <= (s.size : Int) - (pos : Int) := by omega
     have hw3 : pos + 3 <= s.size := by omega
     have hw2 : (pos : Int) + 3 <= (s.size : Int) := by omega
     rw [decide_eq_true h3, Bool.true_and] at hR
     have hsl := sl3 s pos hw3
     generalize hx : s.extract pos (pos + 3) = x at *
     by_cases he : x = ⟨#[239, 191, 189]⟩
     · have te : x.toList = [239, 191, 189] := by rw [he]; decide +kernel
       obtain rfl : R = false := by rw [<- hR, decide_eq_true he]; rfl
       clear hR he hx cR h3
       go_enter Tryz.func95, Tryz.ntmps95
       go_wp2_with fail
       go_ret
       exact ⟨rfl, Below.refl _ _⟩
     · have te : ¬ x.toList = [239, 191, 189] := fun h => he (Go.WideShapes.bytes_inj (by rw [ByteArray.toList_eq] at h; exact h))
       have HR := Lib.hid (show (r == 65533) = R by rw [<- hR, decide_eq_false he]; rfl)
       clear hR he hx h3
       go_enter Tryz.func95, Tryz.ntmps95
       go_wp2_with (first
        | (go_at_call 112
           with_reducible refine (cR.out _).mono ?_
           rintro e v ⟨u, rfl, hr, hb⟩
           obtain ⟨A, c, rfl, hle, hC⟩ := Kd.R_reads hr
           obtain ⟨ad, e0, hx0⟩ := Kd.at_int hC (0 : Int) (by omega) (by rw [List.length_cons]; omega)
           cases e0
           have HB := Zz.mk hb
           have hl1 : (0 : Int) < (((r : Int) :: t).length : Int) := by rw [List.length_cons]; omega
           have hx1 : v.cell? ad = some (.int .i32 (r : Int)) := by simpa [Addr.add, rd] using hx0
           clear hr hC hb hx0)
        | fail)
       go_ret
       exact ⟨by rw [<- HR.out, beq_eq_false_iff_ne.2 te, <- natb r]; rfl, HB.out⟩
   · have hw1 : ¬ (3 : Int) <= (s.size : Int) - (pos : Int) := by omega
     have HR := Lib.hid (show (r == 65533) = R by rw [<- hR, decide_eq_false h3]; rfl)
     clear hR h3
     go_enter Tryz.func95, Tryz.ntmps95
     go_wp2_with (first
      | (go_at_call 112
         with_reducible refine (cR.out _).mono ?_
         rintro e v ⟨u, rfl, hr, hb⟩
         obtain ⟨A, c, rfl, hle, hC⟩ := Kd.R_reads hr
         obtain ⟨ad, e0, hx0⟩ := Kd.at_int hC (0 : Int) (by omega) (by rw [List.length_cons]; omega)
         cases e0
         have HB := Zz.mk hb
         have hl1 : (0 : Int) < (((r : Int) :: t).length : Int) := by rw [List.length_cons]; omega
         have hx1 : v.cell? ad = some (.int .i32 (r : Int)) := by simpa [Addr.add, rd] using hx0
         clear hr hC hb hx0)
      | fail)
     go_ret
     exact ⟨by rw [<- HR.out, <- natb r]; rfl, HB.out⟩
 · obtain rfl : R = false := by rw [<- hR, decide_eq_false (show ¬ 128 <= (s.data.toList.getD pos 0).toNat by omega)]; rfl
   clear hR cR ht hbt
   generalize bt s pos = b at *
   go_enter Tryz.func95, Tryz.ntmps95
   go_wp2_with fail
   go_ret
   exact ⟨rfl, Below.refl _ _⟩
theorem iter_kept {w w' : World} {o : Obj} {k pos : Nat} {s : ByteArray} (h : w.heap[k]? = some (.stringIter s pos)) (hb : Below (w.alloc o).heap.size (w.alloc o) w') : w'.heap[k]? = some (.stringIter s pos) := (hb.block k (by have := (Array.getElem?_eq_some_iff.1 h).1; simp; omega)).trans (iter_alloc h o)
theorem iter_below {w w' : World} {k pos : Nat} {s : ByteArray} (h : w.heap[k]? = some (.stringIter s pos)) (hb : Below w.heap.size w w') : w'.heap[k]? = some (.stringIter s pos) := (hb.block k (Array.getElem?_eq_some_iff.1 h).1).trans h
theorem C_one (w : World) (b : Int) : Kd.C (Kd.int .u8) (w.alloc (.cells #[.int .u8 b] 5)) (some ⟨w.heap.size, 0, none⟩) [b].length [b] := by
 refine ⟨rfl, by simp, fun _ => ⟨_, rfl, fun j p hj => ?_⟩⟩
 match j, hj with
 | 0, hj =>
   simp at hj
   subst hj
   refine ⟨[.int .u8 b], rfl, rfl, fun i u hu => ?_⟩
   match i, hu with
   | 0, hu =>
     simp at hu
     subst hu
     show World.cell? _ (Addr.add _ (0 * 1 + 0)) = _
     rw [show (Addr.add ⟨w.heap.size, 0, none⟩ (0 * 1 + 0) : Addr) = ⟨w.heap.size, 0, none⟩ by simp [Addr.add]]
     rw [blk_cell (heap_alloc_new w _) 0]
     rfl
 | j + 1, hj => simp at hj
theorem sadd (a b : List Int) : strOfNums a ++ strOfNums b = strOfNums (a ++ b) := (strOfNums_append a b).symm
theorem r_Quote (s : ByteArray) (w : World) (hs : s.size <= 1073741824) :
 Calls Tryz.prog 48 #[.string s] w fun e w' => e = .returned (.string (quoteS s)) /\ Below w.heap.size w w' := by
 obtain ⟨U, hU⟩ : ∃ U, quoteS s = strOfNums (U ++ [34]) /\ U = [34] ++ quoteF s (runesOf s) := ⟨_, rfl, rfl⟩
 rw [hU.1]
 have HU := Zz.mk hU.2
 clear hU
 go_enter Tryz.func48, Tryz.ntmps48
 go_wp2
 go_loopw [3] (fun v3 wr => ∃ (pos fuel : Nat) (L : List Int), wr.heap[w.heap.size]? = some (.stringIter s pos) /\ v3 = .string (strOfNums L) /\ Zz (L ++ quoteF s (rns s fuel pos) = U /\ s.size <= pos + fuel /\ pos <= s.size) /\ L.length <= 4 * pos + 1 /\ Zz (Below w.heap.size w wr)) (fun _ wr => s.size - wr.iterPos w.heap.size)
 case atStart => exact ⟨0, s.size, [34], iter_new w s, rfl, ⟨HU.out.symm, by omega, by omega⟩, by simp, ⟨(Below.refl _ _).alloc (Nat.le_refl _) _⟩⟩
 case round =>
  obtain ⟨pos, fuel, L, hit, rfl, hR, hL, hB⟩ := hrel
  by_cases hp : pos < s.size
  · have hwl := width_le s pos hp
    have hw1 := Lib.decode_width_pos s pos hp
    have hpl := quoteP_len s pos hp
    obtain ⟨f2, hf2, he2⟩ := rns_step s fuel pos hp hR.out.2.1
    have hnx := fun ty => Lib.run_next_any_at (P := Tryz.prog) wr w.heap.size s pos ty hit hp
    have HI := Zz.mk (Lib.iterAt_heap wr w.heap.size s pos (pos + (Utf8.decode s pos).2) hit)
    have HBI := Zz.mk (Lib.below_iterAt hB.out (show w.heap.size <= w.heap.size by omega) s (pos + (Utf8.decode s pos).2))
    have HM0 := iter_less hw1 hit hp
    have HMM : Zz (s.size - (pos + (Utf8.decode s pos).2) < s.size - wr.iterPos w.heap.size) := ⟨by rwa [iterPos_of HI.out] at HM0⟩
    have HBK := Lib.hid (fun W => r_broken s pos W hp hs)
    rw [broken_eq s pos hp] at HBK
    have HED := Zz.mk (enc_dec s pos hp)
    clear HM0
    generalize hd : Utf8.decode s pos = d at *
    obtain ⟨r, wd⟩ := d
    simp only at *
    have HR2 : Zz (L ++ quoteP s (pos, r, wd) ++ quoteF s (rns s f2 (pos + wd)) = U /\ s.size <= (pos + wd) + f2 /\ pos + wd <= s.size) := ⟨by have := hR.out.1; rw [he2] at this; simpa [quoteF, List.append_assoc] using this, hf2, hwl.1⟩
    clear he2 hR hB hit
    generalize hWI : wr.iterAt w.heap.size s (pos + wd) = wi at *
    have hsz : (strOfNums L).size <= 4294967297 := by rw [strOfNums_size]; omega
    have f2' : (strOfNums L).size + 2 <= 9223372036854775807 := by omega
    have hpi : (pos : Int) < (s.size : Int) := by omega
    by_cases h34 : r = 34
    · subst h34
      have hq : quoteP s (pos, 34, wd) = [92, 34] := by simp [quoteP]
      rw [hq] at HR2
      clear hpl HBK HED hd hf2
      go_wp2_with fail
      go_roundw
      case rel => exact ⟨pos + wd, f2, L ++ [92, 34], HI.out, by rw [<- sadd]; rfl, HR2, by simp; omega, HBI⟩
      case measure => rw [iterPos_of HI.out]; exact HMM.out
    by_cases h92 : r = 92
    · subst h92
      have hq : quoteP s (pos, 92, wd) = [92, 92] := by simp [quoteP]
      rw [hq] at HR2
      clear hpl HBK HED hd hf2
      go_wp2_with fail
      go_roundw
      case rel => exact ⟨pos + wd, f2, L ++ [92, 92], HI.out, by rw [<- sadd]; rfl, HR2, by simp; omega, HBI⟩
      case measure => rw [iterPos_of HI.out]; exact HMM.out
    have t34 : ((r : Int) == 34) = false := beq_eq_false_iff_ne.2 (by omega)
    have t92 : ((r : Int) == 92) = false := beq_eq_false_iff_ne.2 (by omega)
    by_cases hesc : r < 32 \/ r = 127 \/ (r = 65533 /\ wd = 1)
    · have hq : quoteP s (pos, r, wd) = [92, 120, hexd (bt s pos / 16), hexd (bt s pos % 16)] := by simp [quoteP, h34, h92, hesc]
      rw [hq] at HR2
      have ix := idx_str s pos hp
      have hbr := bt_range s pos
      generalize bt s pos = b at *
      have hby : Bytes [b] := fun x hx => by simp at hx; subst hx; omega
      have cX := Lib.hid (fun W => refHex_walk (some ⟨W.heap.size, 0, none⟩) 1 [b] _ (C_one W b) (by simp) hby (by simp))
      have hhx : hexS [b] = [hexd (b / 16), hexd (b % 16)] := rfl
      rw [hhx] at cX
      simp only [List.length_cons, List.length_nil] at cX
      generalize hexd (b / 16) = x1 at *
      generalize hexd (b % 16) = x2 at *
      have f3 : 2 + (strOfNums [x1, x2]).size <= 9223372036854775807 := by rw [strOfNums_size]; simp
      have f4 : (strOfNums L).size + (⟨#[92, 120]⟩ ++ strOfNums [x1, x2] : ByteArray).size <= 9223372036854775807 := by rw [ByteArray.size_append, strOfNums_size [x1, x2]]; show _ + (2 + 2) <= _; omega
      clear hq hhx hby hpl HED h34 h92 hd hf2
      rcases hesc with h32 | h127 | hbrk
      · have t32 : (r : Int) < 32 := by omega
        clear HBK
        go_wp2_with (first
         | (go_at_call 75
            with_reducible refine (cX.out _).mono ?_
            rintro e v ⟨rfl, hb⟩
            have HB2 := Zz.mk (HBI.out.trans (((Below.refl _ _).alloc (Nat.le_refl _) _ |>.trans (hb.mono (by simp))).mono HBI.out.size))
            have HI2 := Zz.mk (iter_kept HI.out hb)
            clear hb)
         | fail)
        go_roundw
        case rel => exact ⟨pos + wd, f2, L ++ [92, 120, x1, x2], HI2.out, by rw [<- sadd]; rfl, HR2, by simp; omega, HB2⟩
        case measure => rw [iterPos_of HI2.out]; exact HMM.out
      · subst h127
        clear HBK t34 t92
        go_wp2_with (first
         | (go_at_call 75
            with_reducible refine (cX.out _).mono ?_
            rintro e v ⟨rfl, hb⟩
            have HB2 := Zz.mk (HBI.out.trans (((Below.refl _ _).alloc (Nat.le_refl _) _ |>.trans (hb.mono (by simp))).mono HBI.out.size))
            have HI2 := Zz.mk (iter_kept HI.out hb)
            clear hb)
         | fail)
        go_roundw
        case rel => exact ⟨pos + wd, f2, L ++ [92, 120, x1, x2], HI2.out, by rw [<- sadd]; rfl, HR2, by simp; omega, HB2⟩
        case measure => rw [iterPos_of HI2.out]; exact HMM.out
      · obtain ⟨rfl, hw1'⟩ := hbrk
        obtain rfl : 1 = wd := hw1'.symm
        rw [decide_eq_true ⟨rfl, rfl⟩] at HBK
        clear t34 t92
        go_wp2_with (first
         | (go_at_call 95
            with_reducible refine (HBK.out _).mono ?_
            rintro e v0 ⟨rfl, hb0⟩
            have HB0 := Zz.mk (HBI.out.trans (hb0.mono HBI.out.size))
            have HI0 := Zz.mk (iter_below HI.out hb0)
            clear hb0)
         | (go_at_call 75
            with_reducible refine (cX.out _).mono ?_
            rintro e v ⟨rfl, hb⟩
            have HB2 := Zz.mk (HB0.out.trans (((Below.refl _ _).alloc (Nat.le_refl _) _ |>.trans (hb.mono (by simp))).mono HB0.out.size))
            have HI2 := Zz.mk (iter_kept HI0.out hb)
            clear hb)
         | fail)
        go_roundw
        case rel => exact ⟨pos + 1, f2, L ++ [92, 120, x1, x2], HI2.out, by rw [<- sadd]; rfl, HR2, by simp; omega, HB2⟩
        case measure => rw [iterPos_of HI2.out]; exact HMM.out
    · have hq : quoteP s (pos, r, wd) = bytesOf (s.extract pos (pos + wd)) := by
       unfold quoteP
       rw [if_neg (by simp only; omega), if_neg (by simp only; omega)]
      rw [hq] at HR2
      have hE := HED.out (by omega)
      rw [decide_eq_false (by omega)] at HBK
      have hcv := fun W => run_runes1 (r : Int) W
      rw [hE] at hcv
      have hpl2 := hpl
      rw [hq] at hpl2
      have t32 : ¬ (r : Int) < 32 := by omega
      have t127 : ((r : Int) == 127) = false := beq_eq_false_iff_ne.2 (by omega)
      have hxb := strOfNums_bytesOf (s.extract pos (pos + wd))
      have hxs : (s.extract pos (pos + wd)).size = wd := by rw [ByteArray.size_extract]; omega
      generalize s.extract pos (pos + wd) = x at *
      have f3 : (strOfNums L).size + x.size <= 9223372036854775807 := by omega
      clear hq hpl HED hE h34 h92 hesc hd hf2 hxs
      go_wp2_with (first
       | (go_at_call 95
          with_reducible refine (HBK.out _).mono ?_
          rintro e v0 ⟨rfl, hb0⟩
          have HB0 := Zz.mk (HBI.out.trans (hb0.mono HBI.out.size))
          have HI0 := Zz.mk (iter_below HI.out hb0)
          clear hb0)
       | fail)
      go_roundw
      case rel => exact ⟨pos + wd, f2, L ++ bytesOf x, iter_alloc HI0.out _, by rw [<- sadd, hxb], HR2, by simp; omega, ⟨HB0.out.alloc HB0.out.size _⟩⟩
      case measure => rw [iterPos_of (iter_alloc HI0.out _)]; exact HMM.out
  · have hnx := fun ty => Lib.run_next_end_at (P := Tryz.prog) wr w.heap.size s pos ty hit hp
    obtain rfl : L = U := by have := hR.out.1; rw [rns_end s fuel pos hp] at this; simpa [quoteF] using this
    have f1 : (strOfNums L).size + 1 <= 9223372036854775807 := by have := hR.out.2.2; rw [strOfNums_size]; omega
    clear hR
    go_wp2_with fail
    go_ret
    exact ⟨by rw [<- sadd]; rfl, hB.out⟩
def GoodW (w : List UInt8) : Prop := wl w [] false false false = some [w]
theorem wl_sep : ∀ (w cur : List UInt8) (q e sh : Bool) (t : List UInt8), (e = true -> q = true) -> wl w cur q e sh = some [cur ++ w] -> wl (w ++ 32 :: t) cur q e sh = (wl t [] false false false).map ((cur ++ w) :: ·)
 | [], cur, q, e, sh, t, he, h => by
   rw [wl_nil] at h
   by_cases hn : q = true \/ cur = []
   · rw [if_pos hn] at h; cases h
   · have hc : cur ≠ [] := fun h => hn (.inr h)
     have hq : q = false := by cases q with
      | false => rfl
      | true => exact absurd (.inl rfl) hn
     have hee : e = false := by cases e with
      | false => rfl
      | true => have := he rfl; rw [hq] at this; cases this
     subst hq hee
     rw [List.nil_append, List.append_nil, wl_cons, if_neg (by simp), if_neg (by simp), if_neg (fun x => hc x.2), if_neg (by simp), if_neg (by simp), if_pos ⟨rfl, hc⟩]
 | b :: w, cur, q, e, sh, t, he, h => by
   rw [List.cons_append, wl_cons]
   rw [wl_cons] at h
   have hap : cur ++ b :: w = (cur ++ [b]) ++ w := by simp
   rw [hap] at h ⊢
   by_cases h1 : e = true
   · rw [if_pos h1] at h ⊢
     exact wl_sep w (cur ++ [b]) q false sh t (by simp) h
   rw [if_neg h1] at h ⊢
   by_cases h2 : q = true /\ b = 92
   · rw [if_pos h2] at h ⊢
     exact wl_sep w (cur ++ [b]) q true sh t (fun _ => h2.1) h
   rw [if_neg h2] at h ⊢
   by_cases h3 : b = 34 /\ cur = []
   · rw [if_pos h3] at h ⊢
     exact wl_sep w (cur ++ [b]) true e sh t (fun x => absurd x h1) h
   rw [if_neg h3] at h ⊢
   by_cases h4 : b = 34 /\ q = true
   · rw [if_pos h4] at h ⊢
     exact wl_sep w (cur ++ [b]) false e true t (fun x => absurd x h1) h
   rw [if_neg h4] at h ⊢
   by_cases h5 : q = true
   · rw [if_pos h5] at h ⊢
     exact wl_sep w (cur ++ [b]) q e sh t (fun x => absurd x h1) h
   rw [if_neg h5] at h ⊢
   by_cases h6 : b = 32 /\ cur ≠ []
   · rw [if_pos h6, Option.map_eq_some_iff] at h
     obtain ⟨ws, hw, he2⟩ := h
     injection he2 with _ h8
     exact absurd h8 (wl_ne _ _ _ _ _ _ hw)
   rw [if_neg h6] at h ⊢
   by_cases h7 : b = 32 \/ b = 34 \/ sh = true
   · rw [if_pos h7] at h; cases h
   rw [if_neg h7] at h ⊢
   exact wl_sep w (cur ++ [b]) q e sh t he h
theorem wl_joinW : ∀ (ws : List (List UInt8)), ws ≠ [] -> (∀ w ∈ ws, GoodW w) -> wl (joinW ws) [] false false false = some ws
 | [], h, _ => absurd rfl h
 | [w], _, h => h w (by simp)
 | w :: v :: t, _, h => by
   have e : joinW (w :: v :: t) = w ++ 32 :: joinW (v :: t) := by show w ++ [32] ++ joinW (v :: t) = _; simp
   rw [e, wl_sep w [] false false false _ (by simp) (h w (by simp)), wl_joinW (v :: t) (by simp) (fun x hx => h x (by simp [hx]))]
   rfl
theorem joinW_append : ∀ (a b : List (List UInt8)), a ≠ [] -> b ≠ [] -> joinW (a ++ b) = joinW a ++ 32 :: joinW b
 | [], b, h, _ => absurd rfl h
 | [w], [], _, h => absurd rfl h
 | [w], v :: t, _, _ => by show w ++ [32] ++ joinW (v :: t) = w ++ 32 :: joinW (v :: t); simp
 | w :: v :: t, b, _, hb => by
   show w ++ [32] ++ joinW ((v :: t) ++ b) = (w ++ [32] ++ joinW (v :: t)) ++ 32 :: joinW b
   rw [joinW_append (v :: t) b (by simp) hb]
   simp
theorem wl_plainW : ∀ (w cur : List UInt8), (∀ b ∈ w, b ≠ 32 /\ b ≠ 34) -> (cur ≠ [] \/ w ≠ []) -> wl w cur false false false = some [cur ++ w]
 | [], cur, _, h => by
   have hc : cur ≠ [] := h.resolve_right (by simp)
   rw [wl_nil, if_neg (by simp [hc]), List.append_nil]
 | b :: t, cur, hb, h => by
   have h0 := hb b (by simp)
   rw [wl_cons, if_neg (by simp), if_neg (by simp), if_neg (fun x => h0.2 x.1), if_neg (by simp), if_neg (by simp), if_neg (fun x => h0.1 x.1), if_neg (fun x => x.elim h0.1 (fun y => y.elim h0.2 (by simp))), wl_plainW t (cur ++ [b]) (fun x hx => hb x (by simp [hx])) (.inl (by simp))]
   simp
theorem good_plain {w : List UInt8} (h : ∀ b ∈ w, b ≠ 32 /\ b ≠ 34) (hn : w ≠ []) : GoodW w := by
 have := wl_plainW w [] h (.inr hn)
 rwa [List.nil_append] at this
/-! ### between two quotes -/
theorem wl_q1 (b : UInt8) (t cur : List UInt8) (hc : cur ≠ []) (h1 : b ≠ 92) (h2 : b ≠ 34) : wl (b :: t) cur true false false = wl t (cur ++ [b]) true false false := by
 rw [wl_cons, if_neg (by simp), if_neg (fun x => h1 x.2), if_neg (fun x => h2 x.1), if_neg (fun x => h2 x.1), if_pos rfl]
theorem wl_q2 (b : UInt8) (t cur : List UInt8) : wl (92 :: b :: t) cur true false false = wl t (cur ++ [92, b]) true false false := by
 rw [wl_cons, if_neg (by simp), if_pos ⟨rfl, rfl⟩, wl_cons, if_pos rfl]
 simp
theorem wl_qs : ∀ (p t cur : List UInt8), cur ≠ [] -> (∀ b ∈ p, b ≠ 92 /\ b ≠ 34) -> wl (p ++ t) cur true false false = wl t (cur ++ p) true false false
 | [], t, cur, _, _ => by simp
 | b :: p, t, cur, hc, hb => by
   have h0 := hb b (by simp)
   rw [List.cons_append, wl_q1 b _ cur hc h0.1 h0.2, wl_qs p t (cur ++ [b]) (by simp) (fun x hx => hb x (by simp [hx]))]
   simp
def u8s (l : List Int) : List UInt8 := (strOfNums l).data.toList
theorem u8s_append (a b : List Int) : u8s (a ++ b) = u8s a ++ u8s b := by unfold u8s; rw [strOfNums_data, strOfNums_data, strOfNums_data, List.map_append]
theorem u8s_cons (x : Int) (l : List Int) : u8s (x :: l) = u8s [x] ++ u8s l := u8s_append [x] l
theorem hexd_byte : ∀ n : Fin 16, ∀ b ∈ u8s [hexd (n.val : Int)], b ≠ 92 /\ b ≠ 34 /\ b ≠ 32 := by decide +kernel
theorem hexd_b (x : Int) (h0 : 0 <= x) (h1 : x < 16) : ∀ b ∈ u8s [hexd x], b ≠ 92 /\ b ≠ 34 /\ b ≠ 32 := by
 obtain ⟨n, rfl⟩ := Int.eq_ofNat_of_zero_le h0
 exact hexd_byte ⟨n, by omega⟩
theorem bytes_cut (s : ByteArray) (a b : Nat) : u8s (bytesOf (s.extract a b)) = cut s a b := by
 unfold u8s
 rw [strOfNums_bytesOf, cut_data]
theorem wl_piece (s : ByteArray) (pos : Nat) (h : pos < s.size) (t cur : List UInt8) (hc : cur ≠ []) :
 wl (u8s (quoteP s (pos, (Utf8.decode s pos).1, (Utf8.decode s pos).2)) ++ t) cur true false false = wl t (cur ++ u8s (quoteP s (pos, (Utf8.decode s pos).1, (Utf8.decode s pos).2))) true false false := by
 unfold quoteP
 by_cases h1 : (Utf8.decode s pos).1 = 34 \/ (Utf8.decode s pos).1 = 92
 · rw [if_pos h1]
   rcases h1 with h1 | h1
   · rw [h1]
     exact wl_q2 34 t cur
   · rw [h1]
     exact wl_q2 92 t cur
 rw [if_neg h1]
 by_cases h2 : (Utf8.decode s pos).1 < 32 \/ (Utf8.decode s pos).1 = 127 \/ ((Utf8.decode s pos).1 = 65533 /\ (Utf8.decode s pos).2 = 1)
 · rw [if_pos h2]
   have hb := bt_range s pos
   have e : u8s [92, 120, hexd (bt s pos / 16), hexd (bt s pos % 16)] = 92 :: 120 :: (u8s [hexd (bt s pos / 16)] ++ u8s [hexd (bt s pos % 16)]) := by
    rw [u8s_cons, u8s_cons 120, u8s_cons (hexd (bt s pos / 16))]
    rfl
   show wl (u8s [92, 120, hexd (bt s pos / 16), hexd (bt s pos % 16)] ++ t) cur true false false = wl t (cur ++ u8s [92, 120, hexd (bt s pos / 16), hexd (bt s pos % 16)]) true false false
   rw [e]
   show wl (92 :: 120 :: ((u8s [hexd (bt s pos / 16)] ++ u8s [hexd (bt s pos % 16)]) ++ t)) cur true false false = _
   rw [wl_q2, wl_qs _ t _ (by simp)]
   · simp
   · intro b hb2
     rcases List.mem_append.1 hb2 with hb2 | hb2
     · have := hexd_b (bt s pos / 16) (by omega) (by omega) b hb2
       exact ⟨this.1, this.2.1⟩
     · have := hexd_b (bt s pos % 16) (by omega) (by omega) b hb2
       exact ⟨this.1, this.2.1⟩
 rw [if_neg h2]
 show wl (u8s (bytesOf (s.extract pos (pos + (Utf8.decode s pos).2))) ++ t) cur true false false = wl t (cur ++ u8s (bytesOf (s.extract pos (pos + (Utf8.decode s pos).2)))) true false false
 rw [bytes_cut]
 refine wl_qs _ t cur hc ?_
 have hw := width_le s pos h
 have hl : s.data.toList.length = s.size := by rw [Array.length_toList]; rfl
 intro b hb
 obtain ⟨i, hi⟩ := List.mem_iff_getElem?.1 hb
 unfold cut at hi
 have hil : i < (Utf8.decode s pos).2 := by
  rcases Nat.lt_or_ge i (Utf8.decode s pos).2 with h9 | h9
  · exact h9
  · rw [List.getElem?_eq_none (by rw [List.length_take]; omega)] at hi; cases hi
 rw [List.getElem?_take, if_pos (by omega), List.getElem?_drop] at hi
 obtain rfl : s.data.toList.getD (pos + i) 0 = b := by rw [List.getD_eq_getElem?_getD, hi]; rfl
 rcases Nat.lt_or_ge (Utf8.decode s pos).1 128 with hr | hr
 · obtain ⟨e1, e2⟩ := rune_low s pos h hr
   obtain rfl : i = 0 := by omega
   rw [Nat.add_zero]
   constructor
   · intro h9
     rw [h9] at e2
     exact h1 (.inr e2.symm)
   · intro h9
     rw [h9] at e2
     exact h1 (.inl e2.symm)
 · have := rune_high s pos h hr i hil
   constructor
   · intro h9
     rw [h9] at this
     revert this
     decide
   · intro h9
     rw [h9] at this
     revert this
     decide
theorem wl_quoteF (s : ByteArray) : ∀ (f pos : Nat) (t cur : List UInt8), cur ≠ [] -> wl (u8s (quoteF s (rns s f pos)) ++ t) cur true false false = wl t (cur ++ u8s (quoteF s (rns s f pos))) true false false
 | 0, pos, t, cur, hc => by
   show wl ([] ++ t) cur true false false = wl t (cur ++ []) true false false
   simp
 | f + 1, pos, t, cur, hc => by
   unfold rns
   by_cases h : pos < s.size
   · rw [if_pos h]
     unfold quoteF
     rw [List.flatMap_cons, u8s_append, List.append_assoc, wl_piece s pos h _ cur hc]
     have ih := wl_quoteF s f (pos + (Utf8.decode s pos).2) t (cur ++ u8s (quoteP s (pos, (Utf8.decode s pos).1, (Utf8.decode s pos).2))) (by simp [hc])
     unfold quoteF at ih
     rw [ih, List.append_assoc]
   · rw [if_neg h]
     show wl ([] ++ t) cur true false false = wl t (cur ++ []) true false false
     simp
theorem good_quote (s : ByteArray) : GoodW (quoteS s).data.toList := by
 have e : (quoteS s).data.toList = 34 :: (u8s (quoteF s (runesOf s)) ++ [34]) := by
  show u8s ([34] ++ quoteF s (runesOf s) ++ [34]) = _
  rw [u8s_append, u8s_append]
  rfl
 unfold GoodW
 rw [e, wl_cons, if_neg (by simp), if_neg (by simp), if_pos ⟨rfl, rfl⟩]
 unfold runesOf
 rw [wl_quoteF s _ _ _ _ (by simp), wl_cons, if_neg (by simp), if_neg (by simp), if_neg (by simp), if_pos ⟨rfl, rfl⟩, wl_nil, if_neg (by simp)]
 simp
end Go.Proofs.YtpdinahdcedmkaaGreatDoor.Ext
namespace Go.Proofs.YtpdinahdcedmkaaGreatDoor.Ext
open Go.Proofs.YtpdinahdcedmkaaGreatDoor.P
open Go.RowKit YtpdinahdcedmkaaGreatDoorW.PrintWords YtpdinahdcedmkaaGreatDoorW.PrintLast YtpdinahdcedmkaaGreatDoorW.PrintMore
theorem goodL_runeL (l : List (Nat × Nat × Nat)) : goodL l = (runeL l).all fun r => decide (¬ badR r.toNat) := by
 unfold goodL runeL
 rw [List.all_map]
 rfl
theorem drop_getD (l : List Int) (i : Nat) (h : i < l.length) : l.drop i = l.getD i 0 :: l.drop (i + 1) := by
 rw [List.drop_eq_getElem_cons h]
 congr 1
 rw [List.getD_eq_getElem?_getD, List.getElem?_eq_getElem h]
 rfl
theorem r_label (s : ByteArray) (w : World) (hs : s.size <= 1073741824) : Calls Tryz.prog 68 #[.string s] w (BoolB (labelS s) w) := by
 have cR := Lib.hid (fun W => rrunes_walk s W hs)
 obtain ⟨R, hR⟩ : ∃ R, labelS s = R := ⟨_, rfl⟩
 rw [hR]
 unfold labelS at hR
 rw [goodL_runeL, show (runesOf s).length = (runeL (runesOf s)).length by unfold runeL; rw [List.length_map]] at hR
 have hnn : ∀ r ∈ runeL (runesOf s), 0 <= r := by unfold runeL; intro r hr; rw [List.mem_map] at hr; obtain ⟨x, _, rfl⟩ := hr; omega
 generalize runeL (runesOf s) = l at *
 have HR := Lib.hid hR
 have HNN := Lib.hid hnn
 clear hR hnn hs
 unfold RunesPost at cR
 go_enter Tryz.func68, Tryz.ntmps68
 go_wp2_with (first
  | (go_at_call 112
     with_reducible refine (cR.out _).mono ?_
     rintro e v ⟨u, rfl, hr, hb⟩
     obtain ⟨A, c, rfl, hle, hC⟩ := Kd.R_reads hr
     have HC := Zz.mk hC
     have HB := Zz.mk hb
     have hl := hC.2.1
     clear hr hC hb)
  | fail)
 go_loop [12] (fun v12 => ∃ i : Nat, v12 = .int .i64 i /\ i <= l.length /\ Zz ((((l.drop i).all fun r => decide (¬ badR r.toNat)) && (decide (1 <= l.length) && decide (l.length <= 24))) = R)) (fun v12 => l.length - (intOf v12).toNat)
 case atStart => exact ⟨0, rfl, by omega, ⟨HR.out⟩⟩
 case round =>
  obtain ⟨i, rfl, hi, HA⟩ := hrel
  by_cases hlt : i < l.length
  · obtain ⟨ad, e0, hx⟩ := Kd.at_int HC.out (i : Int) (by omega) (by omega)
    cases e0
    have HA1 := HA.out
    rw [drop_getD l i hlt, List.all_cons] at HA1
    simp only [rd, Int.toNat_natCast] at hx
    have h0 : 0 <= l.getD i 0 := HNN.out _ (by rw [List.getD_eq_getElem?_getD, List.getElem?_eq_getElem hlt]; exact List.getElem_mem hlt)
    generalize l.getD i 0 = r at *
    obtain ⟨r, rfl⟩ := Int.eq_ofNat_of_zero_le h0
    clear h0 HA
    rw [Int.toNat_natCast] at HA1
    by_cases hbad : badR r
    · have hU : R = false := by rw [<- HA1, decide_eq_false (not_not_intro hbad)]; rfl
      subst hU
      clear HA1
      unfold badR at hbad
      rcases hbad with hb | hb | rfl | rfl | rfl | rfl | rfl | rfl | rfl | rfl
      · have t1 : (r : Int) < 32 := by omega
        have q1 : ((r : Int) == 32) = false := beq_eq_false_iff_ne.2 (by omega)
        have q2 : ((r : Int) == 160) = false := beq_eq_false_iff_ne.2 (by omega)
        have q3 : ((r : Int) == 8232) = false := beq_eq_false_iff_ne.2 (by omega)
        have q4 : ((r : Int) == 8233) = false := beq_eq_false_iff_ne.2 (by omega)
        have q5 : ((r : Int) == 12288) = false := beq_eq_false_iff_ne.2 (by omega)
        clear hb
        go_wp2
        go_ret
        exact ⟨rfl, HB.out⟩
      · have t1 : ¬ (r : Int) < 32 := by omega
        have t2 : (127 : Int) <= (r : Int) := by omega
        have t3 : (r : Int) < 160 := by omega
        have q1 : ((r : Int) == 32) = false := beq_eq_false_iff_ne.2 (by omega)
        have q2 : ((r : Int) == 160) = false := beq_eq_false_iff_ne.2 (by omega)
        have q3 : ((r : Int) == 8232) = false := beq_eq_false_iff_ne.2 (by omega)
        have q4 : ((r : Int) == 8233) = false := beq_eq_false_iff_ne.2 (by omega)
        have q5 : ((r : Int) == 12288) = false := beq_eq_false_iff_ne.2 (by omega)
        clear hb
        go_wp2
        go_ret
        exact ⟨rfl, HB.out⟩
      all_goals
       go_wp2
       go_ret
       exact ⟨rfl, HB.out⟩
    · have HA2 := Zz.mk (show (((l.drop (i + 1)).all fun r => decide (¬ badR r.toNat)) && (decide (1 <= l.length) && decide (l.length <= 24))) = R by rw [<- HA1, decide_eq_true hbad]; rfl)
      clear HA1
      unfold badR at hbad
      have t1 : ¬ (r : Int) < 32 := by omega
      have q1 : ((r : Int) == 32) = false := beq_eq_false_iff_ne.2 (by omega)
      have q2 : ((r : Int) == 160) = false := beq_eq_false_iff_ne.2 (by omega)
      have q3 : ((r : Int) == 8232) = false := beq_eq_false_iff_ne.2 (by omega)
      have q4 : ((r : Int) == 8233) = false := beq_eq_false_iff_ne.2 (by omega)
      have q5 : ((r : Int) == 12288) = false := beq_eq_false_iff_ne.2 (by omega)
      have q6 : ((r : Int) == 34) = false := beq_eq_false_iff_ne.2 (by omega)
      have q7 : ((r : Int) == 92) = false := beq_eq_false_iff_ne.2 (by omega)
      have q8 : ((r : Int) == 65533) = false := beq_eq_false_iff_ne.2 (by omega)
      by_cases t2 : (127 : Int) <= (r : Int)
      · have t3 : ¬ (r : Int) < 160 := by omega
        clear hbad
        go_wp2
        go_round
        case rel => exact ⟨i + 1, by go_num, by omega, HA2⟩
        case measure => simp [intOf]; omega
      · clear hbad
        go_wp2
        go_round
        case rel => exact ⟨i + 1, by go_num, by omega, HA2⟩
        case measure => simp [intOf]; omega
  · have hA := HA.out
    rw [List.drop_of_length_le (by omega)] at hA
    have hA : (decide (1 <= l.length) && decide (l.length <= 24)) = R := hA
    have HA2 := Lib.hid hA
    clear hA HA
    go_wp2
    all_goals
     go_ret
     refine boolB_i (Eq.trans ?_ HA2.out) HB.out
     first
      | (rw [decide_eq_true (show 1 <= l.length by omega), Bool.true_and]; exact decide_eq_decide.2 (by omega))
      | (rw [decide_eq_false (show ¬ 1 <= l.length by omega)]; rfl)
theorem lt_snoc {P : Nat -> Prop} {j : Nat} (h : ∀ k < j, P k) (hj : P j) : ∀ k < j + 1, P k := fun k hk => by
 rcases Nat.lt_or_eq_of_le (Nat.le_of_lt_succ hk) with h1 | rfl
 · exact h k h1
 · exact hj
theorem dupS (l : List ByteArray) (i j : Nat) (hj : j < i) (hi : i < l.length) (h : l.getD i ByteArray.empty = l.getD j ByteArray.empty) : hasStr (l.take i) (l.getD i ByteArray.empty) = true := by
 unfold hasStr
 apply decide_eq_true
 unfold idxS
 rw [List.findIdx_lt_length]
 refine ⟨l.getD j ByteArray.empty, ?_, by simpa using h.symm⟩
 rw [List.getD_eq_getElem?_getD, List.getElem?_eq_getElem (by omega)]
 rw [List.mem_take_iff_getElem]
 exact ⟨j, by omega, rfl⟩
theorem noDupS (l : List ByteArray) (i : Nat) (hi : i < l.length) (h : ∀ j < i, l.getD j ByteArray.empty ≠ l.getD i ByteArray.empty) : hasStr (l.take i) (l.getD i ByteArray.empty) = false := by
 unfold hasStr
 apply decide_eq_false
 apply idxS_none
 intro j hj
 rw [List.length_take] at hj
 have := h j (by omega)
 rwa [List.getD_eq_getElem?_getD, List.getElem?_take_of_lt (by omega), <- List.getD_eq_getElem?_getD]
theorem namesOk_no (l : List ByteArray) (n m : Nat) (h : namesOk l n = false) (hnm : n <= m) : namesOk l m = false := by
 cases h2 : namesOk l m with
 | false => rfl
 | true => rw [namesOk_le l n m h2 hnm] at h; cases h
theorem r_head (p : Plan) (cp : List Value) (w : World) (hP : k25.K w p cp) (hp : PlanBd p) (hsm : ∀ i, (p.f2.getD i ByteArray.empty).size <= 1073741824) :
 Calls Tryz.prog 27 #[.agg cp.toArray] w (BoolB (headedS p.f0 p.f1 p.f2) w) := by
 have P0 := Zz.mk (Bx.new w cp 25)
 obtain ⟨B2, d2, B3, d3, rfl, m2, e2, m3, e3⟩ := k25_open hP
 have HC := Zz.mk e2
 have hle := m2
 have hn : p.f2.length <= 1048576 := hp.few
 have cL := Lib.hid (fun i W => r_label (p.f2.getD i ByteArray.empty) W (hsm i))
 clear hP hp hsm m2 e2 m3 e3
 obtain ⟨R, hR⟩ : ∃ R, headedS p.f0 p.f1 p.f2 = R := ⟨_, rfl⟩
 rw [hR]
 unfold headedS at hR
 have HR := Lib.hid hR
 clear hR
 generalize p.f2 = l at *
 generalize p.f0 = a at *
 generalize p.f1 = b at *
 have r0 := P0.out.c 0
 have r1 := P0.out.c 1
 have r2 := P0.out.c 2
 go_enter Tryz.func27, Tryz.ntmps27
 go_upto_region 3 with fail
 all_goals try
  (go_ret
   refine boolB_i ?_ P0.out.hb
   rw [<- HR.out, decide_eq_false (by omega)]
   rfl
   done)
 have hc : 8 <= a /\ a <= 2048 /\ 1 <= b /\ b <= 1024 /\ 1 <= l.length /\ l.length <= 16 := by omega
 have hR2 : namesOk l l.length = R := by rw [<- HR.out, decide_eq_true hc]; rfl
 have HR2 := Lib.hid hR2
 clear hR2 HR hc
 go_upto_region 4 with fail
 go_wp2
 go_loopw [40] (fun v40 wr => ∃ i : Nat, v40 = .int .i64 i /\ i <= l.length /\ Zz (namesOk l i = true) /\ Zz (Bx w wr w.heap.size [.int .i64 a, .int .i64 b, .slice B2 l.length d2, .slice B3 p.f3.length d3] 25)) (fun v40 _ => l.length - (intOf v40).toNat)
 case atStart => exact ⟨0, rfl, by omega, ⟨rfl⟩, P0⟩
 case round =>
  clear r0 r1 r2
  obtain ⟨i, rfl, hi, HA, HP⟩ := hrel
  by_cases hlt : i < l.length
  · obtain ⟨ad, e0, hx⟩ := Kd.at_string HC.out (i : Int) (by omega) (by omega)
    cases e0
    simp only [rdOf, Int.toNat_natCast] at hx
    have hx1 := (HP.out.hb.cell (World.block_lt_of_cell? w _ hx)).trans hx
    clear hx
    have hs1 := namesOk_succ l i
    rw [HA.out, Bool.true_and] at hs1
    have HS := Lib.hid hs1
    have HNO := Lib.hid (fun h => namesOk_no l (i + 1) l.length h (by omega))
    have c1 := Lib.hid (cL.out i)
    have HD := Lib.hid (fun j hj h => dupS l i j hj hlt h)
    have HN := Lib.hid (fun h => noDupS l i hlt h)
    clear hs1 HA
    generalize l.getD i ByteArray.empty = si at *
    generalize labelS si = bl at *
    cases bl with
    | false =>
      go_wp2_with (first
       | (go_at_call 68
          with_reducible refine (c1.out _).mono ?_
          rintro e v ⟨rfl, hb⟩
          replace HP := Zz.mk (HP.out.next hb)
          clear hb)
       | fail)
      go_ret
      refine boolB_i ?_ HP.out.hb
      rw [<- HR2.out, HNO.out (by rw [HS.out]; rfl)]
    | true =>
      have hz : (0 : Int) <= (i : Int) := by omega
      go_wp2_with (first
       | (go_at_call 68
          with_reducible refine (c1.out _).mono ?_
          rintro e v ⟨rfl, hb⟩
          replace HP := Zz.mk (HP.out.next hb)
          clear hb hx1
          have r2 := HP.out.c 2)
       | fail)
      go_loop [53] (fun v53 => ∃ j : Nat, v53 = .int .i64 j /\ j <= i /\ Zz (∀ k < j, l.getD k ByteArray.empty ≠ si)) (fun v53 => i - (intOf v53).toNat)
      case atStart => exact ⟨0, rfl, by omega, ⟨fun k hk => by omega⟩⟩
      case round =>
       obtain ⟨j, rfl, hj, HJ⟩ := hrel
       by_cases hji : j < i
       · obtain ⟨ad', e1, hy⟩ := Kd.at_string HC.out (j : Int) (by omega) (by omega)
         cases e1
         simp only [rdOf, Int.toNat_natCast] at hy
         have hy1 := (HP.out.hb.cell (World.block_lt_of_cell? w _ hy)).trans hy
         clear hy
         have HE := Lib.hid (HD.out j hji)
         have HK := Lib.hid (lt_snoc (P := fun k => l.getD k ByteArray.empty ≠ si) HJ.out)
         clear HJ
         generalize l.getD j ByteArray.empty = sj at *
         by_cases he : sj = si
         · have te : (si.toList == sj.toList) = true := by rw [he]; exact beq_self_eq_true _
           have HE2 := Lib.hid (HE.out he.symm)
           clear he HE HK
           go_wp2
           go_ret
           exact boolB_i (by rw [<- HR2.out, HNO.out (by rw [HS.out, HE2.out]; rfl)]) HP.out.hb
         · have te := str_ne (fun h => he h.symm)
           have HK2 := Zz.mk (HK.out he)
           clear he HE HK
           go_wp2
           go_round
           case rel => exact ⟨j + 1, by go_num, by omega, HK2⟩
           case measure => simp [intOf]; omega
       · obtain rfl : j = i := by omega
         have HK := Zz.mk (HN.out HJ.out)
         go_wp2
         go_roundw
         case rel => exact ⟨j + 1, by go_num, by omega, ⟨by rw [HS.out, HK.out]; rfl⟩, HP⟩
         case measure => simp [intOf]; omega
  · obtain rfl : i = l.length := by omega
    go_wp2
    go_ret
    exact boolB_i (by rw [<- HR2.out, HA.out]) HP.out.hb
end Go.Proofs.YtpdinahdcedmkaaGreatDoor.Ext
