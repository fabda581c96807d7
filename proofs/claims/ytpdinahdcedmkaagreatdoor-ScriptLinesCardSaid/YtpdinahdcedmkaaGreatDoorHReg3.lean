import Derived.Test.YtpdinahdcedmkaaGreatDoorKT
set_option linter.unusedVariables false
set_option linter.unusedSimpArgs false
set_option maxHeartbeats 40000000
set_option maxRecDepth 1000000
/- Region 3 of the document's May. -/
namespace Go.Proofs.YtpdinahdcedmkaaGreatDoor.Ext
open Go.Proofs.YtpdinahdcedmkaaGreatDoor.P
open Go.RowKit YtpdinahdcedmkaaGreatDoorW.PrintWords YtpdinahdcedmkaaGreatDoorW.PrintLast YtpdinahdcedmkaaGreatDoorW.PrintMore Go.Proofs.YtpdinahdcedmkaaGreatDoor.Spec
noncomputable def mayReg3 : Code := ((Tryz.f28.body.bind (findReg 3)).getD .skip)
attribute [local go_sem high] eqRg
theorem reg3_walk (p : Plan) (x : Act) (B2 B3 A4 A11 A12 : Option Addr) (n d2 d3 c4 c11 c12 n4 n12 : Nat) (dev dto kd xm key tid lo hi : Int) (w W : World) (vS bS : Bool) (lS : Hid (∀ W, Calls Tryz.prog 71 #[.int .i64 x.f0, .int .i32 115] W (BoolB vS W))) (cS : Hid (∀ W, Below w.heap.size w W -> Calls Tryz.prog 72 #[.agg #[.int .i64 x.f0, .int .i64 dev, .int .i64 dto, .int .i64 kd, .slice A4 n4 c4, .int .u32 xm, .int .u32 key, .int .u32 tid, .int .u64 lo, .int .u64 hi, .int .i64 x.f9, .slice A11 x.f10.length c11, .slice A12 n12 c12]] W (BoolB bS W))) (HZ : Zz (HX w 25 34 w.heap.size (w.heap.size + 1) (.int .i64 p.f0) (.int .i64 p.f1) (.slice B2 n d2) (.slice B3 p.f3.length d3) (.int .i64 x.f0) (.int .i64 dev) (.int .i64 dto) (.int .i64 kd) (.slice A4 n4 c4) (.int .u32 xm) (.int .u32 key) (.int .u32 tid) (.int .u64 lo) (.int .u64 hi) (.int .i64 x.f9) (.slice A11 x.f10.length c11) (.slice A12 n12 c12) W)) (t0 t1 t4 t5 t6 t7 t8 t9 t10 t11 t12 t13 t14 t15 t16 t17 t18 t19 t20 t21 t22 t23 t24 t25 t26 t27 t28 t29 t30 t31 t32 t33 t34 t35 t36 t37 t38 t39 t40 t41 t42 t43 t44 t45 t46 t47 t48 t49 t50 t51 t52 t53 t54 t55 t56 t57 t58 t59 t60 t61 t62 t63 t64 t65 t66 t67 t68 t69 t70 t71 t72 t73 t74 t75 t76 t77 t78 t79 t80 t81 t82 t83 t84 t85 t86 t87 t88 t89 t90 t91 t92 t93 t94 t95 t96 t97 t98 t99 t100 t101 t102 t103 t104 t105 t106 t107 t108 t109 t110 t111 t112 t113 t114 t115 t116 t117 t118 t119 t120 t121 t122 t123 t124 t125 t126 t127 t128 t129 t130 t131 t132 t133 t134 t135 t136 t137 t138 t139 t140 t141 t142 t143 t144 t145 t146 t147 t148 t149 t150 t151 t152 t153 t154 t155 t156 t157 t158 t159 t160 t161 t162 t163 t164 t165 t166 : Value) (K : Go.Act -> World -> Prop) (Q : Exit -> Go.Act -> World -> Prop) (HQ : Hid (∀ c (a : Go.Act) d v w, Q (.panic c) (a.put d v) w -> Q (.panic c) a w))
 (hK : ∀ (u20 u21 u22 u23 u24 u25 u26 u27 u28 u29 u30 u31 u32 u33 u34 u35 u36 u37 u38 u39 u40 u41 u42 u43 u44 u45 u46 u47 u48 u49 u50 u51 u52 : Value) (b : Bool) (W' : World), b = b2R vS kd xm bS n4 -> Zz (HX w 25 34 w.heap.size (w.heap.size + 1) (.int .i64 p.f0) (.int .i64 p.f1) (.slice B2 n d2) (.slice B3 p.f3.length d3) (.int .i64 x.f0) (.int .i64 dev) (.int .i64 dto) (.int .i64 kd) (.slice A4 n4 c4) (.int .u32 xm) (.int .u32 key) (.int .u32 tid) (.int .u64 lo) (.int .u64 hi) (.int .i64 x.f9) (.slice A11 x.f10.length c11) (.slice A12 n12 c12) W') -> K ⟨#[t0, t1, .pointer (some ⟨w.heap.size, 0, none⟩), .pointer (some ⟨w.heap.size + 1, 0, none⟩), t4, t5, t6, t7, t8, t9, t10, t11, t12, t13, t14, t15, t16, t17, t18, t19, u20, u21, u22, u23, u24, u25, u26, u27, u28, u29, u30, u31, u32, u33, u34, u35, u36, u37, u38, u39, u40, u41, u42, u43, u44, u45, u46, u47, u48, u49, u50, u51, u52, .bool b, t54, t55, t56, t57, t58, t59, t60, t61, t62, t63, t64, t65, t66, t67, t68, t69, t70, t71, t72, t73, t74, t75, t76, t77, t78, t79, t80, t81, t82, t83, t84, t85, t86, t87, t88, t89, t90, t91, t92, t93, t94, t95, t96, t97, t98, t99, t100, t101, t102, t103, t104, t105, t106, t107, t108, t109, t110, t111, t112, t113, t114, t115, t116, t117, t118, t119, t120, t121, t122, t123, t124, t125, t126, t127, t128, t129, t130, t131, t132, t133, t134, t135, t136, t137, t138, t139, t140, t141, t142, t143, t144, t145, t146, t147, t148, t149, t150, t151, t152, t153, t154, t155, t156, t157, t158, t159, t160, t161, t162, t163, t164, t165, t166], []⟩ W') : Code.wp Tryz.prog mayReg3 (Exit.then K Q) ⟨#[t0, t1, .pointer (some ⟨w.heap.size, 0, none⟩), .pointer (some ⟨w.heap.size + 1, 0, none⟩), t4, t5, t6, t7, t8, t9, t10, t11, t12, t13, t14, t15, t16, t17, t18, t19, t20, t21, t22, t23, t24, t25, t26, t27, t28, t29, t30, t31, t32, t33, t34, t35, t36, t37, t38, t39, t40, t41, t42, t43, t44, t45, t46, t47, t48, t49, t50, t51, t52, t53, t54, t55, t56, t57, t58, t59, t60, t61, t62, t63, t64, t65, t66, t67, t68, t69, t70, t71, t72, t73, t74, t75, t76, t77, t78, t79, t80, t81, t82, t83, t84, t85, t86, t87, t88, t89, t90, t91, t92, t93, t94, t95, t96, t97, t98, t99, t100, t101, t102, t103, t104, t105, t106, t107, t108, t109, t110, t111, t112, t113, t114, t115, t116, t117, t118, t119, t120, t121, t122, t123, t124, t125, t126, t127, t128, t129, t130, t131, t132, t133, t134, t135, t136, t137, t138, t139, t140, t141, t142, t143, t144, t145, t146, t147, t148, t149, t150, t151, t152, t153, t154, t155, t156, t157, t158, t159, t160, t161, t162, t163, t164, t165, t166], []⟩ W := by
 conv => arg 2; whnf
 cases vS with
 | true =>
   by_cases h0 : kd = 0
   · have k1 : (kd != 0) = false := by rw [h0]; rfl
     have HV := Lib.hid (show b2R true kd xm bS n4 = true by unfold b2R; rw [k1]; rfl)
     clear h0
     as_aux_lemma =>
      refine wp_region_held_drew (S := HX w 25 34 w.heap.size (w.heap.size + 1) (.int .i64 p.f0) (.int .i64 p.f1) (.slice B2 n d2) (.slice B3 p.f3.length d3) (.int .i64 x.f0) (.int .i64 dev) (.int .i64 dto) (.int .i64 kd) (.slice A4 n4 c4) (.int .u32 xm) (.int .u32 key) (.int .u32 tid) (.int .u64 lo) (.int .u64 hi) (.int .i64 x.f9) (.slice A11 x.f10.length c11) (.slice A12 n12 c12)) (by kernel_rfl) (HZ.out.drew) (fun hHeld => ?_)
      apply tkJ 0
      apply tkJ 1
      apply tkJ 3
      apply tkJ 4
      apply tkJ 5
      refine wpAnyH_ready (rs := [2]) (by kernel_rfl) (by simp) ?_
      refine AllReadyH.cons rfl (fun K hK => ?_) AllReadyH.nil
      go_simp
      go_at_call 71
      with_reducible refine (lS.out _).mono ?_
      rintro e u1 ⟨rfl, hbz⟩
      try go_wp2_with fail
      refine hK.out _ _ (hHeld.next hbz) ?_
      clear hHeld hbz hK K
      intro hHeld
      try simp only [Act.put,pA,pB,pC,pD,pE,pF]
      apply tkJ 6
      apply tkJ 7
      apply skJ 8
      apply skJ 9
      apply skJ 10
      apply skJ 11
      apply skJ 12
      apply skJ 13
      apply skJ 14
      apply skJ 15
      apply tkJ 16
      apply tkJ 17
      apply skJ 18
      apply skJ 19
      apply skJ 20
      apply skJ 21
      apply skJ 22
      apply skJ 23
      apply skJ 24
      apply skJ 25
      apply skJ 26
      apply skJ 27
      apply skJ 28
      apply skJ 29
      apply skJ 30
      apply skJ 31
      apply skJ 32
      apply tkJ 33
      refine wpAnyH_done (by kernel_rfl) ?_ _
      go_wp2_with fail
      exact hK _ _ _ _ _ _ _ _ _ _ _ _ _ _ _ _ _ _ _ _ _ _ _ _ _ _ _ _ _ _ _ _ _ _ _ (by first | (rw [HV.out]; done) | (rw [HV.out]; simp)) ⟨hHeld⟩
   · have k1 : (kd != 0) = true := bne_iff_ne.2 h0
     clear h0
     cases bS with
     | false =>
       have HV := Lib.hid (show b2R true kd xm false n4 = true by unfold b2R; rw [k1]; rfl)
       as_aux_lemma =>
        refine wp_region_held_drew (S := HX w 25 34 w.heap.size (w.heap.size + 1) (.int .i64 p.f0) (.int .i64 p.f1) (.slice B2 n d2) (.slice B3 p.f3.length d3) (.int .i64 x.f0) (.int .i64 dev) (.int .i64 dto) (.int .i64 kd) (.slice A4 n4 c4) (.int .u32 xm) (.int .u32 key) (.int .u32 tid) (.int .u64 lo) (.int .u64 hi) (.int .i64 x.f9) (.slice A11 x.f10.length c11) (.slice A12 n12 c12)) (by kernel_rfl) (HZ.out.drew) (fun hHeld => ?_)
        apply tkJ 0
        apply tkJ 1
        apply tkJ 3
        apply tkJ 4
        apply tkJ 5
        refine wpAnyH_ready (rs := [2]) (by kernel_rfl) (by simp) ?_
        refine AllReadyH.cons rfl (fun K hK => ?_) AllReadyH.nil
        go_simp
        go_at_call 71
        with_reducible refine (lS.out _).mono ?_
        rintro e u1 ⟨rfl, hbz⟩
        try go_wp2_with fail
        refine hK.out _ _ (hHeld.next hbz) ?_
        clear hHeld hbz hK K
        intro hHeld
        try simp only [Act.put,pA,pB,pC,pD,pE,pF]
        apply tkJ 6
        apply tkJ 7
        apply tkJ 8
        apply tkJ 9
        refine wpAnyH_ready (rs := [10]) (by kernel_rfl) (by simp) ?_
        refine AllReadyH.cons rfl (fun K hK => ?_) AllReadyH.nil
        go_simp
        go_at_call 71
        with_reducible refine (lS.out _).mono ?_
        rintro e u2 ⟨rfl, hbz⟩
        try go_wp2_with fail
        refine hK.out _ _ (hHeld.next hbz) ?_
        clear hHeld hbz hK K
        intro hHeld
        try simp only [Act.put,pA,pB,pC,pD,pE,pF]
        apply tkJ 11
        apply tkJ 12
        refine wpAnyH_ready (rs := [13]) (by kernel_rfl) (by simp) ?_
        refine AllReadyH.cons rfl (fun K hK => ?_) AllReadyH.nil
        go_simp
        go_at_call 72
        with_reducible refine (cS.out _ hHeld.x.hb).mono ?_
        rintro e u3 ⟨rfl, hbz⟩
        try go_wp2_with fail
        refine hK.out _ _ (hHeld.next hbz) ?_
        clear hHeld hbz hK K
        intro hHeld
        try simp only [Act.put,pA,pB,pC,pD,pE,pF]
        apply tkJ 14
        apply tkJ 15
        apply tkJ 16
        apply tkJ 17
        apply skJ 18
        apply skJ 19
        apply skJ 20
        apply skJ 21
        apply skJ 22
        apply skJ 23
        apply skJ 24
        apply skJ 25
        apply skJ 26
        apply skJ 27
        apply skJ 28
        apply skJ 29
        apply skJ 30
        apply skJ 31
        apply skJ 32
        apply tkJ 33
        refine wpAnyH_done (by kernel_rfl) ?_ _
        go_wp2_with fail
        exact hK _ _ _ _ _ _ _ _ _ _ _ _ _ _ _ _ _ _ _ _ _ _ _ _ _ _ _ _ _ _ _ _ _ _ _ (by first | (rw [HV.out]; done) | (rw [HV.out]; simp)) ⟨hHeld⟩
     | true =>
       have HV := Lib.hid (show b2R true kd xm true n4 = false by unfold b2R; rw [k1]; rfl)
       as_aux_lemma =>
        refine wp_region_held_drew (S := HX w 25 34 w.heap.size (w.heap.size + 1) (.int .i64 p.f0) (.int .i64 p.f1) (.slice B2 n d2) (.slice B3 p.f3.length d3) (.int .i64 x.f0) (.int .i64 dev) (.int .i64 dto) (.int .i64 kd) (.slice A4 n4 c4) (.int .u32 xm) (.int .u32 key) (.int .u32 tid) (.int .u64 lo) (.int .u64 hi) (.int .i64 x.f9) (.slice A11 x.f10.length c11) (.slice A12 n12 c12)) (by kernel_rfl) (HZ.out.drew) (fun hHeld => ?_)
        apply tkJ 0
        apply tkJ 1
        apply tkJ 3
        apply tkJ 4
        apply tkJ 5
        refine wpAnyH_ready (rs := [2]) (by kernel_rfl) (by simp) ?_
        refine AllReadyH.cons rfl (fun K hK => ?_) AllReadyH.nil
        go_simp
        go_at_call 71
        with_reducible refine (lS.out _).mono ?_
        rintro e u1 ⟨rfl, hbz⟩
        try go_wp2_with fail
        refine hK.out _ _ (hHeld.next hbz) ?_
        clear hHeld hbz hK K
        intro hHeld
        try simp only [Act.put,pA,pB,pC,pD,pE,pF]
        apply tkJ 6
        apply tkJ 7
        apply tkJ 8
        apply tkJ 9
        refine wpAnyH_ready (rs := [10]) (by kernel_rfl) (by simp) ?_
        refine AllReadyH.cons rfl (fun K hK => ?_) AllReadyH.nil
        go_simp
        go_at_call 71
        with_reducible refine (lS.out _).mono ?_
        rintro e u2 ⟨rfl, hbz⟩
        try go_wp2_with fail
        refine hK.out _ _ (hHeld.next hbz) ?_
        clear hHeld hbz hK K
        intro hHeld
        try simp only [Act.put,pA,pB,pC,pD,pE,pF]
        apply tkJ 11
        apply tkJ 12
        refine wpAnyH_ready (rs := [13]) (by kernel_rfl) (by simp) ?_
        refine AllReadyH.cons rfl (fun K hK => ?_) AllReadyH.nil
        go_simp
        go_at_call 72
        with_reducible refine (cS.out _ hHeld.x.hb).mono ?_
        rintro e u3 ⟨rfl, hbz⟩
        try go_wp2_with fail
        refine hK.out _ _ (hHeld.next hbz) ?_
        clear hHeld hbz hK K
        intro hHeld
        try simp only [Act.put,pA,pB,pC,pD,pE,pF]
        apply tkJ 14
        apply tkJ 15
        apply tkJ 16
        apply tkJ 17
        apply tkJ 18
        apply tkJ 19
        refine wpAnyH_ready (rs := [20]) (by kernel_rfl) (by simp) ?_
        refine AllReadyH.cons rfl (fun K hK => ?_) AllReadyH.nil
        go_simp
        go_at_call 71
        with_reducible refine (lS.out _).mono ?_
        rintro e u4 ⟨rfl, hbz⟩
        try go_wp2_with fail
        refine hK.out _ _ (hHeld.next hbz) ?_
        clear hHeld hbz hK K
        intro hHeld
        try simp only [Act.put,pA,pB,pC,pD,pE,pF]
        apply tkJ 21
        apply tkJ 22
        apply skJ 23
        apply skJ 24
        apply skJ 25
        apply skJ 26
        apply skJ 27
        apply skJ 28
        apply skJ 29
        apply skJ 30
        apply skJ 31
        apply tkJ 32
        apply tkJ 33
        refine wpAnyH_done (by kernel_rfl) ?_ _
        go_wp2_with fail
        exact hK _ _ _ _ _ _ _ _ _ _ _ _ _ _ _ _ _ _ _ _ _ _ _ _ _ _ _ _ _ _ _ _ _ _ _ (by first | (rw [HV.out]; done) | (rw [HV.out]; simp)) ⟨hHeld⟩
 | false =>
   by_cases h0 : kd = 0
   · have k1 : (kd != 0) = false := by rw [h0]; rfl
     clear h0
     by_cases h5 : xm = 0
     · have k5 : (xm != 0) = false := by rw [h5]; rfl
       have HV := Lib.hid (show b2R false kd xm bS n4 = decide (0 < n4) by unfold b2R; rw [k1, k5]; rfl)
       clear h5
       as_aux_lemma =>
        refine wp_region_held_drew (S := HX w 25 34 w.heap.size (w.heap.size + 1) (.int .i64 p.f0) (.int .i64 p.f1) (.slice B2 n d2) (.slice B3 p.f3.length d3) (.int .i64 x.f0) (.int .i64 dev) (.int .i64 dto) (.int .i64 kd) (.slice A4 n4 c4) (.int .u32 xm) (.int .u32 key) (.int .u32 tid) (.int .u64 lo) (.int .u64 hi) (.int .i64 x.f9) (.slice A11 x.f10.length c11) (.slice A12 n12 c12)) (by kernel_rfl) (HZ.out.drew) (fun hHeld => ?_)
        apply tkJ 0
        apply tkJ 1
        apply tkJ 3
        apply tkJ 4
        apply tkJ 5
        refine wpAnyH_ready (rs := [2]) (by kernel_rfl) (by simp) ?_
        refine AllReadyH.cons rfl (fun K hK => ?_) AllReadyH.nil
        go_simp
        go_at_call 71
        with_reducible refine (lS.out _).mono ?_
        rintro e u1 ⟨rfl, hbz⟩
        try go_wp2_with fail
        refine hK.out _ _ (hHeld.next hbz) ?_
        clear hHeld hbz hK K
        intro hHeld
        try simp only [Act.put,pA,pB,pC,pD,pE,pF]
        apply tkJ 6
        apply tkJ 7
        apply tkJ 8
        apply tkJ 9
        refine wpAnyH_ready (rs := [10]) (by kernel_rfl) (by simp) ?_
        refine AllReadyH.cons rfl (fun K hK => ?_) AllReadyH.nil
        go_simp
        go_at_call 71
        with_reducible refine (lS.out _).mono ?_
        rintro e u2 ⟨rfl, hbz⟩
        try go_wp2_with fail
        refine hK.out _ _ (hHeld.next hbz) ?_
        clear hHeld hbz hK K
        intro hHeld
        try simp only [Act.put,pA,pB,pC,pD,pE,pF]
        apply tkJ 11
        apply skJ 12
        apply skJ 13
        apply skJ 14
        apply tkJ 15
        apply tkJ 16
        apply tkJ 17
        apply tkJ 18
        apply tkJ 19
        refine wpAnyH_ready (rs := [20]) (by kernel_rfl) (by simp) ?_
        refine AllReadyH.cons rfl (fun K hK => ?_) AllReadyH.nil
        go_simp
        go_at_call 71
        with_reducible refine (lS.out _).mono ?_
        rintro e u3 ⟨rfl, hbz⟩
        try go_wp2_with fail
        refine hK.out _ _ (hHeld.next hbz) ?_
        clear hHeld hbz hK K
        intro hHeld
        try simp only [Act.put,pA,pB,pC,pD,pE,pF]
        apply tkJ 21
        apply tkJ 22
        apply tkJ 23
        apply tkJ 24
        apply tkJ 25
        apply tkJ 26
        apply tkJ 27
        apply tkJ 28
        apply tkJ 29
        apply tkJ 30
        apply tkJ 31
        apply tkJ 32
        apply tkJ 33
        refine wpAnyH_done (by kernel_rfl) ?_ _
        go_wp2_with fail
        exact hK _ _ _ _ _ _ _ _ _ _ _ _ _ _ _ _ _ _ _ _ _ _ _ _ _ _ _ _ _ _ _ _ _ _ _ (by first | (rw [HV.out]; done) | (rw [HV.out]; simp)) ⟨hHeld⟩
     · have k5 : (xm != 0) = true := bne_iff_ne.2 h5
       have HV := Lib.hid (show b2R false kd xm bS n4 = true by unfold b2R; rw [k1, k5]; rfl)
       clear h5
       as_aux_lemma =>
        refine wp_region_held_drew (S := HX w 25 34 w.heap.size (w.heap.size + 1) (.int .i64 p.f0) (.int .i64 p.f1) (.slice B2 n d2) (.slice B3 p.f3.length d3) (.int .i64 x.f0) (.int .i64 dev) (.int .i64 dto) (.int .i64 kd) (.slice A4 n4 c4) (.int .u32 xm) (.int .u32 key) (.int .u32 tid) (.int .u64 lo) (.int .u64 hi) (.int .i64 x.f9) (.slice A11 x.f10.length c11) (.slice A12 n12 c12)) (by kernel_rfl) (HZ.out.drew) (fun hHeld => ?_)
        apply tkJ 0
        apply tkJ 1
        apply tkJ 3
        apply tkJ 4
        apply tkJ 5
        refine wpAnyH_ready (rs := [2]) (by kernel_rfl) (by simp) ?_
        refine AllReadyH.cons rfl (fun K hK => ?_) AllReadyH.nil
        go_simp
        go_at_call 71
        with_reducible refine (lS.out _).mono ?_
        rintro e u1 ⟨rfl, hbz⟩
        try go_wp2_with fail
        refine hK.out _ _ (hHeld.next hbz) ?_
        clear hHeld hbz hK K
        intro hHeld
        try simp only [Act.put,pA,pB,pC,pD,pE,pF]
        apply tkJ 6
        apply tkJ 7
        apply tkJ 8
        apply tkJ 9
        refine wpAnyH_ready (rs := [10]) (by kernel_rfl) (by simp) ?_
        refine AllReadyH.cons rfl (fun K hK => ?_) AllReadyH.nil
        go_simp
        go_at_call 71
        with_reducible refine (lS.out _).mono ?_
        rintro e u2 ⟨rfl, hbz⟩
        try go_wp2_with fail
        refine hK.out _ _ (hHeld.next hbz) ?_
        clear hHeld hbz hK K
        intro hHeld
        try simp only [Act.put,pA,pB,pC,pD,pE,pF]
        apply tkJ 11
        apply skJ 12
        apply skJ 13
        apply skJ 14
        apply tkJ 15
        apply tkJ 16
        apply tkJ 17
        apply tkJ 18
        apply tkJ 19
        refine wpAnyH_ready (rs := [20]) (by kernel_rfl) (by simp) ?_
        refine AllReadyH.cons rfl (fun K hK => ?_) AllReadyH.nil
        go_simp
        go_at_call 71
        with_reducible refine (lS.out _).mono ?_
        rintro e u3 ⟨rfl, hbz⟩
        try go_wp2_with fail
        refine hK.out _ _ (hHeld.next hbz) ?_
        clear hHeld hbz hK K
        intro hHeld
        try simp only [Act.put,pA,pB,pC,pD,pE,pF]
        apply tkJ 21
        apply tkJ 22
        apply tkJ 23
        apply tkJ 24
        apply tkJ 25
        apply tkJ 26
        apply skJ 27
        apply skJ 28
        apply skJ 29
        apply skJ 30
        apply tkJ 31
        apply tkJ 32
        apply tkJ 33
        refine wpAnyH_done (by kernel_rfl) ?_ _
        go_wp2_with fail
        exact hK _ _ _ _ _ _ _ _ _ _ _ _ _ _ _ _ _ _ _ _ _ _ _ _ _ _ _ _ _ _ _ _ _ _ _ (by first | (rw [HV.out]; done) | (rw [HV.out]; simp)) ⟨hHeld⟩
   · have k1 : (kd != 0) = true := bne_iff_ne.2 h0
     have HV := Lib.hid (show b2R false kd xm bS n4 = true by unfold b2R; rw [k1]; rfl)
     clear h0
     as_aux_lemma =>
      refine wp_region_held_drew (S := HX w 25 34 w.heap.size (w.heap.size + 1) (.int .i64 p.f0) (.int .i64 p.f1) (.slice B2 n d2) (.slice B3 p.f3.length d3) (.int .i64 x.f0) (.int .i64 dev) (.int .i64 dto) (.int .i64 kd) (.slice A4 n4 c4) (.int .u32 xm) (.int .u32 key) (.int .u32 tid) (.int .u64 lo) (.int .u64 hi) (.int .i64 x.f9) (.slice A11 x.f10.length c11) (.slice A12 n12 c12)) (by kernel_rfl) (HZ.out.drew) (fun hHeld => ?_)
      apply tkJ 0
      apply tkJ 1
      apply tkJ 3
      apply tkJ 4
      apply tkJ 5
      refine wpAnyH_ready (rs := [2]) (by kernel_rfl) (by simp) ?_
      refine AllReadyH.cons rfl (fun K hK => ?_) AllReadyH.nil
      go_simp
      go_at_call 71
      with_reducible refine (lS.out _).mono ?_
      rintro e u1 ⟨rfl, hbz⟩
      try go_wp2_with fail
      refine hK.out _ _ (hHeld.next hbz) ?_
      clear hHeld hbz hK K
      intro hHeld
      try simp only [Act.put,pA,pB,pC,pD,pE,pF]
      apply tkJ 6
      apply tkJ 7
      apply skJ 8
      apply skJ 9
      apply skJ 10
      apply skJ 11
      apply skJ 12
      apply skJ 13
      apply skJ 14
      apply skJ 15
      apply tkJ 16
      apply tkJ 17
      apply skJ 18
      apply skJ 19
      apply skJ 20
      apply skJ 21
      apply skJ 22
      apply skJ 23
      apply skJ 24
      apply skJ 25
      apply skJ 26
      apply skJ 27
      apply skJ 28
      apply skJ 29
      apply skJ 30
      apply skJ 31
      apply skJ 32
      apply tkJ 33
      refine wpAnyH_done (by kernel_rfl) ?_ _
      go_wp2_with fail
      exact hK _ _ _ _ _ _ _ _ _ _ _ _ _ _ _ _ _ _ _ _ _ _ _ _ _ _ _ _ _ _ _ _ _ _ _ (by first | (rw [HV.out]; done) | (rw [HV.out]; simp)) ⟨hHeld⟩
end Go.Proofs.YtpdinahdcedmkaaGreatDoor.Ext
