import Derived.Test.YtpdinahdcedmkaaGreatDoorKT
set_option linter.unusedVariables false
set_option linter.unusedSimpArgs false
set_option maxHeartbeats 40000000
set_option maxRecDepth 1000000
/- Region 8 of the document's May. -/
namespace Go.Proofs.YtpdinahdcedmkaaGreatDoor.Ext
open Go.Proofs.YtpdinahdcedmkaaGreatDoor.P
open Go.RowKit YtpdinahdcedmkaaGreatDoorW.PrintWords YtpdinahdcedmkaaGreatDoorW.PrintLast YtpdinahdcedmkaaGreatDoorW.PrintMore Go.Proofs.YtpdinahdcedmkaaGreatDoor.Spec
noncomputable def mayReg8 : Code := ((Tryz.f28.body.bind (findReg 8)).getD .skip)
attribute [local go_sem high] eqRg
theorem reg8_walk (p : Plan) (x : Act) (B2 B3 A4 A11 A12 : Option Addr) (n d2 d3 c4 c11 c12 n4 n12 : Nat) (dev dto kd xm key tid lo hi : Int) (w W : World) (vK vI vR : Bool) (HC : Hid ((vK = true /\ vI = false /\ vR = false) \/ (vK = true /\ vI = false /\ vR = true) \/ (vK = false /\ vI = true /\ vR = false) \/ (vK = false /\ vI = false /\ vR = false))) (lK : Hid (∀ W, Calls Tryz.prog 71 #[.int .i64 x.f0, .int .i32 107] W (BoolB vK W))) (lI : Hid (∀ W, Calls Tryz.prog 71 #[.int .i64 x.f0, .int .i32 105] W (BoolB vI W))) (lR : Hid (∀ W, Calls Tryz.prog 71 #[.int .i64 x.f0, .int .i32 114] W (BoolB vR W))) (cO : Hid (∀ W, Calls Tryz.prog 73 #[.agg #[.int .u64 lo, .int .u64 hi]] W (BoolB (oneS lo hi) W))) (HZ : Zz (HX w 25 34 w.heap.size (w.heap.size + 1) (.int .i64 p.f0) (.int .i64 p.f1) (.slice B2 n d2) (.slice B3 p.f3.length d3) (.int .i64 x.f0) (.int .i64 dev) (.int .i64 dto) (.int .i64 kd) (.slice A4 n4 c4) (.int .u32 xm) (.int .u32 key) (.int .u32 tid) (.int .u64 lo) (.int .u64 hi) (.int .i64 x.f9) (.slice A11 x.f10.length c11) (.slice A12 n12 c12) W)) (t0 t1 t4 t5 t6 t7 t8 t9 t10 t11 t12 t13 t14 t15 t16 t17 t18 t19 t20 t21 t22 t23 t24 t25 t26 t27 t28 t29 t30 t31 t32 t33 t34 t35 t36 t37 t38 t39 t40 t41 t42 t43 t44 t45 t46 t47 t48 t49 t50 t51 t52 t53 t54 t55 t56 t57 t58 t59 t60 t61 t62 t63 t64 t65 t66 t67 t68 t69 t70 t71 t72 t73 t74 t75 t76 t77 t78 t79 t80 t81 t82 t83 t84 t85 t86 t87 t88 t89 t90 t91 t92 t93 t94 t95 t96 t97 t98 t99 t100 t101 t102 t103 t104 t105 t106 t107 t108 t109 t110 t111 t112 t113 t114 t115 t116 t117 t118 t119 t120 t121 t122 t123 t124 t125 t126 t127 t128 t129 t130 t131 t132 t133 t134 t135 t136 t137 t138 t139 t140 t141 t142 t143 t144 t145 t146 t147 t148 t149 t150 t151 t152 t153 t154 t155 t156 t157 t158 t159 t160 t161 t162 t163 t164 t165 t166 : Value) (K : Go.Act -> World -> Prop) (Q : Exit -> Go.Act -> World -> Prop) (HQ : Hid (∀ c (a : Go.Act) d v w, Q (.panic c) (a.put d v) w -> Q (.panic c) a w))
 (hK : ∀ (u111 u112 u113 u114 u115 u116 u117 u118 u119 u120 u121 u122 u123 u124 u125 u126 u127 u128 u129 u130 u131 u132 u133 u134 u135 u136 u137 u138 u139 u140 u141 u142 u143 u144 u145 u146 u147 u148 u149 u150 : Value) (b : Bool) (W' : World), b = b5R vK vI vR key tid lo hi -> Zz (HX w 25 34 w.heap.size (w.heap.size + 1) (.int .i64 p.f0) (.int .i64 p.f1) (.slice B2 n d2) (.slice B3 p.f3.length d3) (.int .i64 x.f0) (.int .i64 dev) (.int .i64 dto) (.int .i64 kd) (.slice A4 n4 c4) (.int .u32 xm) (.int .u32 key) (.int .u32 tid) (.int .u64 lo) (.int .u64 hi) (.int .i64 x.f9) (.slice A11 x.f10.length c11) (.slice A12 n12 c12) W') -> K ⟨#[t0, t1, .pointer (some ⟨w.heap.size, 0, none⟩), .pointer (some ⟨w.heap.size + 1, 0, none⟩), t4, t5, t6, t7, t8, t9, t10, t11, t12, t13, t14, t15, t16, t17, t18, t19, t20, t21, t22, t23, t24, t25, t26, t27, t28, t29, t30, t31, t32, t33, t34, t35, t36, t37, t38, t39, t40, t41, t42, t43, t44, t45, t46, t47, t48, t49, t50, t51, t52, t53, t54, t55, t56, t57, t58, t59, t60, t61, t62, t63, t64, t65, t66, t67, t68, t69, t70, t71, t72, t73, t74, t75, t76, t77, t78, t79, t80, t81, t82, t83, t84, t85, t86, t87, t88, t89, t90, t91, t92, t93, t94, t95, t96, t97, t98, t99, t100, t101, t102, t103, t104, t105, t106, t107, t108, t109, t110, u111, u112, u113, u114, u115, u116, u117, u118, u119, u120, u121, u122, u123, u124, u125, u126, u127, u128, u129, u130, u131, u132, u133, u134, u135, u136, u137, u138, u139, u140, u141, u142, u143, u144, u145, u146, u147, u148, u149, u150, .bool b, t152, t153, t154, t155, t156, t157, t158, t159, t160, t161, t162, t163, t164, t165, t166], []⟩ W') : Code.wp Tryz.prog mayReg8 (Exit.then K Q) ⟨#[t0, t1, .pointer (some ⟨w.heap.size, 0, none⟩), .pointer (some ⟨w.heap.size + 1, 0, none⟩), t4, t5, t6, t7, t8, t9, t10, t11, t12, t13, t14, t15, t16, t17, t18, t19, t20, t21, t22, t23, t24, t25, t26, t27, t28, t29, t30, t31, t32, t33, t34, t35, t36, t37, t38, t39, t40, t41, t42, t43, t44, t45, t46, t47, t48, t49, t50, t51, t52, t53, t54, t55, t56, t57, t58, t59, t60, t61, t62, t63, t64, t65, t66, t67, t68, t69, t70, t71, t72, t73, t74, t75, t76, t77, t78, t79, t80, t81, t82, t83, t84, t85, t86, t87, t88, t89, t90, t91, t92, t93, t94, t95, t96, t97, t98, t99, t100, t101, t102, t103, t104, t105, t106, t107, t108, t109, t110, t111, t112, t113, t114, t115, t116, t117, t118, t119, t120, t121, t122, t123, t124, t125, t126, t127, t128, t129, t130, t131, t132, t133, t134, t135, t136, t137, t138, t139, t140, t141, t142, t143, t144, t145, t146, t147, t148, t149, t150, t151, t152, t153, t154, t155, t156, t157, t158, t159, t160, t161, t162, t163, t164, t165, t166], []⟩ W := by
 conv => arg 2; whnf
 obtain ⟨rfl, rfl, rfl⟩ | ⟨rfl, rfl, rfl⟩ | ⟨rfl, rfl, rfl⟩ | ⟨rfl, rfl, rfl⟩ := HC.out
 · skip
   by_cases h2 : tid = 0
   rotate_left
   · have k2 : (tid != 0) = true := bne_iff_ne.2 h2
     clear h2
     have HV := Lib.hid (show b5R true false false key tid lo hi = true by unfold b5R; rw [k2]; rfl)
     as_aux_lemma =>
      refine wp_region_held_drew (S := HX w 25 34 w.heap.size (w.heap.size + 1) (.int .i64 p.f0) (.int .i64 p.f1) (.slice B2 n d2) (.slice B3 p.f3.length d3) (.int .i64 x.f0) (.int .i64 dev) (.int .i64 dto) (.int .i64 kd) (.slice A4 n4 c4) (.int .u32 xm) (.int .u32 key) (.int .u32 tid) (.int .u64 lo) (.int .u64 hi) (.int .i64 x.f9) (.slice A11 x.f10.length c11) (.slice A12 n12 c12)) (by kernel_rfl) (HZ.out.drew) (fun hHeld => ?_)
      apply tkJ 0
      apply tkJ 1
      refine wpAnyH_ready (rs := [2]) (by kernel_rfl) (by simp) ?_
      refine AllReadyH.cons rfl (fun K hK => ?_) AllReadyH.nil
      go_simp
      go_at_call 71
      with_reducible refine (lK.out _).mono ?_
      rintro e u1 ⟨rfl, hbz⟩
      try go_wp2_with fail
      refine hK.out _ _ (hHeld.next hbz) ?_
      clear hHeld hbz hK K
      intro hHeld
      try simp only [Act.put,pA,pB,pC,pD,pE,pF]
      apply tkJ 3
      apply tkJ 4
      apply skJ 5
      apply skJ 6
      apply skJ 7
      apply tkJ 8
      apply tkJ 9
      apply tkJ 10
      apply tkJ 11
      refine wpAnyH_ready (rs := [12]) (by kernel_rfl) (by simp) ?_
      refine AllReadyH.cons rfl (fun K hK => ?_) AllReadyH.nil
      go_simp
      go_at_call 71
      with_reducible refine (lI.out _).mono ?_
      rintro e u2 ⟨rfl, hbz⟩
      try go_wp2_with fail
      refine hK.out _ _ (hHeld.next hbz) ?_
      clear hHeld hbz hK K
      intro hHeld
      try simp only [Act.put,pA,pB,pC,pD,pE,pF]
      apply tkJ 13
      apply tkJ 14
      apply tkJ 15
      apply tkJ 16
      apply tkJ 17
      apply tkJ 18
      apply tkJ 19
      apply tkJ 20
      apply skJ 21
      apply skJ 22
      apply skJ 23
      apply skJ 24
      apply skJ 25
      apply skJ 26
      apply skJ 27
      apply tkJ 28
      apply tkJ 29
      apply skJ 30
      apply skJ 31
      apply skJ 32
      apply skJ 33
      apply skJ 34
      apply skJ 35
      apply skJ 36
      apply skJ 37
      apply skJ 38
      apply skJ 39
      apply tkJ 40
      refine wpAnyH_done (by kernel_rfl) ?_ _
      go_wp2_with fail
      exact hK _ _ _ _ _ _ _ _ _ _ _ _ _ _ _ _ _ _ _ _ _ _ _ _ _ _ _ _ _ _ _ _ _ _ _ _ _ _ _ _ _ _ (by first | (rw [HV.out]; done) | (rw [HV.out]; simp)) ⟨hHeld⟩
   have k2 : (tid != 0) = false := by rw [h2]; rfl
   clear h2
   generalize h1S : oneS lo hi = b1 at *
   cases b1 with
   | false =>
     have HV := Lib.hid (show b5R true false false key tid lo hi = !(lo == 0 && hi == 0) by unfold b5R; rw [k2, h1S]; rfl)
     clear h1S
     as_aux_lemma =>
      refine wp_region_held_drew (S := HX w 25 34 w.heap.size (w.heap.size + 1) (.int .i64 p.f0) (.int .i64 p.f1) (.slice B2 n d2) (.slice B3 p.f3.length d3) (.int .i64 x.f0) (.int .i64 dev) (.int .i64 dto) (.int .i64 kd) (.slice A4 n4 c4) (.int .u32 xm) (.int .u32 key) (.int .u32 tid) (.int .u64 lo) (.int .u64 hi) (.int .i64 x.f9) (.slice A11 x.f10.length c11) (.slice A12 n12 c12)) (by kernel_rfl) (HZ.out.drew) (fun hHeld => ?_)
      apply tkJ 0
      apply tkJ 1
      refine wpAnyH_ready (rs := [2]) (by kernel_rfl) (by simp) ?_
      refine AllReadyH.cons rfl (fun K hK => ?_) AllReadyH.nil
      go_simp
      go_at_call 71
      with_reducible refine (lK.out _).mono ?_
      rintro e u1 ⟨rfl, hbz⟩
      try go_wp2_with fail
      refine hK.out _ _ (hHeld.next hbz) ?_
      clear hHeld hbz hK K
      intro hHeld
      try simp only [Act.put,pA,pB,pC,pD,pE,pF]
      apply tkJ 3
      apply tkJ 4
      apply skJ 5
      apply skJ 6
      apply skJ 7
      apply tkJ 8
      apply tkJ 9
      apply tkJ 10
      apply tkJ 11
      refine wpAnyH_ready (rs := [12]) (by kernel_rfl) (by simp) ?_
      refine AllReadyH.cons rfl (fun K hK => ?_) AllReadyH.nil
      go_simp
      go_at_call 71
      with_reducible refine (lI.out _).mono ?_
      rintro e u2 ⟨rfl, hbz⟩
      try go_wp2_with fail
      refine hK.out _ _ (hHeld.next hbz) ?_
      clear hHeld hbz hK K
      intro hHeld
      try simp only [Act.put,pA,pB,pC,pD,pE,pF]
      apply tkJ 13
      apply tkJ 14
      apply tkJ 15
      apply tkJ 16
      apply tkJ 17
      apply tkJ 18
      apply tkJ 19
      apply tkJ 20
      apply tkJ 21
      apply tkJ 22
      apply tkJ 24
      apply tkJ 25
      refine wpAnyH_ready (rs := [23]) (by kernel_rfl) (by simp) ?_
      refine AllReadyH.cons rfl (fun K hK => ?_) AllReadyH.nil
      go_simp
      go_at_call 71
      with_reducible refine (lR.out _).mono ?_
      rintro e u3 ⟨rfl, hbz⟩
      try go_wp2_with fail
      refine hK.out _ _ (hHeld.next hbz) ?_
      clear hHeld hbz hK K
      intro hHeld
      try simp only [Act.put,pA,pB,pC,pD,pE,pF]
      refine wpAnyH_ready (rs := [26]) (by kernel_rfl) (by simp) ?_
      refine AllReadyH.cons rfl (fun K hK => ?_) AllReadyH.nil
      go_simp
      go_at_call 73
      with_reducible refine (cO.out _).mono ?_
      rintro e u4 ⟨rfl, hbz⟩
      try go_wp2_with fail
      refine hK.out _ _ (hHeld.next hbz) ?_
      clear hHeld hbz hK K
      intro hHeld
      try simp only [Act.put,pA,pB,pC,pD,pE,pF]
      apply tkJ 27
      apply tkJ 28
      apply tkJ 29
      apply tkJ 30
      apply tkJ 31
      refine wpAnyH_ready (rs := [32]) (by kernel_rfl) (by simp) ?_
      refine AllReadyH.cons rfl (fun K hK => ?_) AllReadyH.nil
      go_simp
      go_at_call 71
      with_reducible refine (lR.out _).mono ?_
      rintro e u5 ⟨rfl, hbz⟩
      try go_wp2_with fail
      refine hK.out _ _ (hHeld.next hbz) ?_
      clear hHeld hbz hK K
      intro hHeld
      try simp only [Act.put,pA,pB,pC,pD,pE,pF]
      apply tkJ 33
      apply tkJ 34
      apply tkJ 35
      apply tkJ 36
      apply tkJ 37
      apply tkJ 38
      apply tkJ 39
      apply tkJ 40
      refine wpAnyH_done (by kernel_rfl) ?_ _
      go_wp2_with fail
      exact hK _ _ _ _ _ _ _ _ _ _ _ _ _ _ _ _ _ _ _ _ _ _ _ _ _ _ _ _ _ _ _ _ _ _ _ _ _ _ _ _ _ _ (by first | (rw [HV.out]; done) | (rw [HV.out]; simp)) ⟨hHeld⟩
   | true =>
     have HV := Lib.hid (show b5R true false false key tid lo hi = true by unfold b5R; rw [k2, h1S]; rfl)
     clear h1S
     as_aux_lemma =>
      refine wp_region_held_drew (S := HX w 25 34 w.heap.size (w.heap.size + 1) (.int .i64 p.f0) (.int .i64 p.f1) (.slice B2 n d2) (.slice B3 p.f3.length d3) (.int .i64 x.f0) (.int .i64 dev) (.int .i64 dto) (.int .i64 kd) (.slice A4 n4 c4) (.int .u32 xm) (.int .u32 key) (.int .u32 tid) (.int .u64 lo) (.int .u64 hi) (.int .i64 x.f9) (.slice A11 x.f10.length c11) (.slice A12 n12 c12)) (by kernel_rfl) (HZ.out.drew) (fun hHeld => ?_)
      apply tkJ 0
      apply tkJ 1
      refine wpAnyH_ready (rs := [2]) (by kernel_rfl) (by simp) ?_
      refine AllReadyH.cons rfl (fun K hK => ?_) AllReadyH.nil
      go_simp
      go_at_call 71
      with_reducible refine (lK.out _).mono ?_
      rintro e u1 ⟨rfl, hbz⟩
      try go_wp2_with fail
      refine hK.out _ _ (hHeld.next hbz) ?_
      clear hHeld hbz hK K
      intro hHeld
      try simp only [Act.put,pA,pB,pC,pD,pE,pF]
      apply tkJ 3
      apply tkJ 4
      apply skJ 5
      apply skJ 6
      apply skJ 7
      apply tkJ 8
      apply tkJ 9
      apply tkJ 10
      apply tkJ 11
      refine wpAnyH_ready (rs := [12]) (by kernel_rfl) (by simp) ?_
      refine AllReadyH.cons rfl (fun K hK => ?_) AllReadyH.nil
      go_simp
      go_at_call 71
      with_reducible refine (lI.out _).mono ?_
      rintro e u2 ⟨rfl, hbz⟩
      try go_wp2_with fail
      refine hK.out _ _ (hHeld.next hbz) ?_
      clear hHeld hbz hK K
      intro hHeld
      try simp only [Act.put,pA,pB,pC,pD,pE,pF]
      apply tkJ 13
      apply tkJ 14
      apply tkJ 15
      apply tkJ 16
      apply tkJ 17
      apply tkJ 18
      apply tkJ 19
      apply tkJ 20
      apply tkJ 21
      apply tkJ 22
      apply tkJ 24
      apply tkJ 25
      refine wpAnyH_ready (rs := [23]) (by kernel_rfl) (by simp) ?_
      refine AllReadyH.cons rfl (fun K hK => ?_) AllReadyH.nil
      go_simp
      go_at_call 71
      with_reducible refine (lR.out _).mono ?_
      rintro e u3 ⟨rfl, hbz⟩
      try go_wp2_with fail
      refine hK.out _ _ (hHeld.next hbz) ?_
      clear hHeld hbz hK K
      intro hHeld
      try simp only [Act.put,pA,pB,pC,pD,pE,pF]
      refine wpAnyH_ready (rs := [26]) (by kernel_rfl) (by simp) ?_
      refine AllReadyH.cons rfl (fun K hK => ?_) AllReadyH.nil
      go_simp
      go_at_call 73
      with_reducible refine (cO.out _).mono ?_
      rintro e u4 ⟨rfl, hbz⟩
      try go_wp2_with fail
      refine hK.out _ _ (hHeld.next hbz) ?_
      clear hHeld hbz hK K
      intro hHeld
      try simp only [Act.put,pA,pB,pC,pD,pE,pF]
      apply tkJ 27
      apply tkJ 28
      apply tkJ 29
      apply skJ 30
      apply skJ 31
      apply skJ 32
      apply skJ 33
      apply skJ 34
      apply skJ 35
      apply skJ 36
      apply skJ 37
      apply skJ 38
      apply skJ 39
      apply tkJ 40
      refine wpAnyH_done (by kernel_rfl) ?_ _
      go_wp2_with fail
      exact hK _ _ _ _ _ _ _ _ _ _ _ _ _ _ _ _ _ _ _ _ _ _ _ _ _ _ _ _ _ _ _ _ _ _ _ _ _ _ _ _ _ _ (by first | (rw [HV.out]; done) | (rw [HV.out]; simp)) ⟨hHeld⟩
 · skip
   by_cases h2 : tid = 0
   rotate_left
   · have k2 : (tid != 0) = true := bne_iff_ne.2 h2
     clear h2
     have HV := Lib.hid (show b5R true false true key tid lo hi = true by unfold b5R; rw [k2]; rfl)
     as_aux_lemma =>
      refine wp_region_held_drew (S := HX w 25 34 w.heap.size (w.heap.size + 1) (.int .i64 p.f0) (.int .i64 p.f1) (.slice B2 n d2) (.slice B3 p.f3.length d3) (.int .i64 x.f0) (.int .i64 dev) (.int .i64 dto) (.int .i64 kd) (.slice A4 n4 c4) (.int .u32 xm) (.int .u32 key) (.int .u32 tid) (.int .u64 lo) (.int .u64 hi) (.int .i64 x.f9) (.slice A11 x.f10.length c11) (.slice A12 n12 c12)) (by kernel_rfl) (HZ.out.drew) (fun hHeld => ?_)
      apply tkJ 0
      apply tkJ 1
      refine wpAnyH_ready (rs := [2]) (by kernel_rfl) (by simp) ?_
      refine AllReadyH.cons rfl (fun K hK => ?_) AllReadyH.nil
      go_simp
      go_at_call 71
      with_reducible refine (lK.out _).mono ?_
      rintro e u1 ⟨rfl, hbz⟩
      try go_wp2_with fail
      refine hK.out _ _ (hHeld.next hbz) ?_
      clear hHeld hbz hK K
      intro hHeld
      try simp only [Act.put,pA,pB,pC,pD,pE,pF]
      apply tkJ 3
      apply tkJ 4
      apply skJ 5
      apply skJ 6
      apply skJ 7
      apply tkJ 8
      apply tkJ 9
      apply tkJ 10
      apply tkJ 11
      refine wpAnyH_ready (rs := [12]) (by kernel_rfl) (by simp) ?_
      refine AllReadyH.cons rfl (fun K hK => ?_) AllReadyH.nil
      go_simp
      go_at_call 71
      with_reducible refine (lI.out _).mono ?_
      rintro e u2 ⟨rfl, hbz⟩
      try go_wp2_with fail
      refine hK.out _ _ (hHeld.next hbz) ?_
      clear hHeld hbz hK K
      intro hHeld
      try simp only [Act.put,pA,pB,pC,pD,pE,pF]
      apply tkJ 13
      apply tkJ 14
      apply tkJ 15
      apply tkJ 16
      apply tkJ 17
      apply tkJ 18
      apply tkJ 19
      apply tkJ 20
      apply skJ 21
      apply skJ 22
      apply skJ 23
      apply skJ 24
      apply skJ 25
      apply skJ 26
      apply skJ 27
      apply tkJ 28
      apply tkJ 29
      apply skJ 30
      apply skJ 31
      apply skJ 32
      apply skJ 33
      apply skJ 34
      apply skJ 35
      apply skJ 36
      apply skJ 37
      apply skJ 38
      apply skJ 39
      apply tkJ 40
      refine wpAnyH_done (by kernel_rfl) ?_ _
      go_wp2_with fail
      exact hK _ _ _ _ _ _ _ _ _ _ _ _ _ _ _ _ _ _ _ _ _ _ _ _ _ _ _ _ _ _ _ _ _ _ _ _ _ _ _ _ _ _ (by first | (rw [HV.out]; done) | (rw [HV.out]; simp)) ⟨hHeld⟩
   have k2 : (tid != 0) = false := by rw [h2]; rfl
   clear h2
   generalize h1S : oneS lo hi = b1 at *
   cases b1 with
   | false =>
     have HV := Lib.hid (show b5R true false true key tid lo hi = true by unfold b5R; rw [k2, h1S]; rfl)
     clear h1S
     as_aux_lemma =>
      refine wp_region_held_drew (S := HX w 25 34 w.heap.size (w.heap.size + 1) (.int .i64 p.f0) (.int .i64 p.f1) (.slice B2 n d2) (.slice B3 p.f3.length d3) (.int .i64 x.f0) (.int .i64 dev) (.int .i64 dto) (.int .i64 kd) (.slice A4 n4 c4) (.int .u32 xm) (.int .u32 key) (.int .u32 tid) (.int .u64 lo) (.int .u64 hi) (.int .i64 x.f9) (.slice A11 x.f10.length c11) (.slice A12 n12 c12)) (by kernel_rfl) (HZ.out.drew) (fun hHeld => ?_)
      apply tkJ 0
      apply tkJ 1
      refine wpAnyH_ready (rs := [2]) (by kernel_rfl) (by simp) ?_
      refine AllReadyH.cons rfl (fun K hK => ?_) AllReadyH.nil
      go_simp
      go_at_call 71
      with_reducible refine (lK.out _).mono ?_
      rintro e u1 ⟨rfl, hbz⟩
      try go_wp2_with fail
      refine hK.out _ _ (hHeld.next hbz) ?_
      clear hHeld hbz hK K
      intro hHeld
      try simp only [Act.put,pA,pB,pC,pD,pE,pF]
      apply tkJ 3
      apply tkJ 4
      apply skJ 5
      apply skJ 6
      apply skJ 7
      apply tkJ 8
      apply tkJ 9
      apply tkJ 10
      apply tkJ 11
      refine wpAnyH_ready (rs := [12]) (by kernel_rfl) (by simp) ?_
      refine AllReadyH.cons rfl (fun K hK => ?_) AllReadyH.nil
      go_simp
      go_at_call 71
      with_reducible refine (lI.out _).mono ?_
      rintro e u2 ⟨rfl, hbz⟩
      try go_wp2_with fail
      refine hK.out _ _ (hHeld.next hbz) ?_
      clear hHeld hbz hK K
      intro hHeld
      try simp only [Act.put,pA,pB,pC,pD,pE,pF]
      apply tkJ 13
      apply tkJ 14
      apply tkJ 15
      apply tkJ 16
      apply tkJ 17
      apply tkJ 18
      apply tkJ 19
      apply tkJ 20
      apply tkJ 21
      apply tkJ 22
      apply tkJ 24
      apply tkJ 25
      refine wpAnyH_ready (rs := [23]) (by kernel_rfl) (by simp) ?_
      refine AllReadyH.cons rfl (fun K hK => ?_) AllReadyH.nil
      go_simp
      go_at_call 71
      with_reducible refine (lR.out _).mono ?_
      rintro e u3 ⟨rfl, hbz⟩
      try go_wp2_with fail
      refine hK.out _ _ (hHeld.next hbz) ?_
      clear hHeld hbz hK K
      intro hHeld
      try simp only [Act.put,pA,pB,pC,pD,pE,pF]
      refine wpAnyH_ready (rs := [26]) (by kernel_rfl) (by simp) ?_
      refine AllReadyH.cons rfl (fun K hK => ?_) AllReadyH.nil
      go_simp
      go_at_call 73
      with_reducible refine (cO.out _).mono ?_
      rintro e u4 ⟨rfl, hbz⟩
      try go_wp2_with fail
      refine hK.out _ _ (hHeld.next hbz) ?_
      clear hHeld hbz hK K
      intro hHeld
      try simp only [Act.put,pA,pB,pC,pD,pE,pF]
      apply tkJ 27
      apply tkJ 28
      apply tkJ 29
      apply skJ 30
      apply skJ 31
      apply skJ 32
      apply skJ 33
      apply skJ 34
      apply skJ 35
      apply skJ 36
      apply skJ 37
      apply skJ 38
      apply skJ 39
      apply tkJ 40
      refine wpAnyH_done (by kernel_rfl) ?_ _
      go_wp2_with fail
      exact hK _ _ _ _ _ _ _ _ _ _ _ _ _ _ _ _ _ _ _ _ _ _ _ _ _ _ _ _ _ _ _ _ _ _ _ _ _ _ _ _ _ _ (by first | (rw [HV.out]; done) | (rw [HV.out]; simp)) ⟨hHeld⟩
   | true =>
     have HV := Lib.hid (show b5R true false true key tid lo hi = false by unfold b5R; rw [k2, h1S]; rfl)
     clear h1S
     as_aux_lemma =>
      refine wp_region_held_drew (S := HX w 25 34 w.heap.size (w.heap.size + 1) (.int .i64 p.f0) (.int .i64 p.f1) (.slice B2 n d2) (.slice B3 p.f3.length d3) (.int .i64 x.f0) (.int .i64 dev) (.int .i64 dto) (.int .i64 kd) (.slice A4 n4 c4) (.int .u32 xm) (.int .u32 key) (.int .u32 tid) (.int .u64 lo) (.int .u64 hi) (.int .i64 x.f9) (.slice A11 x.f10.length c11) (.slice A12 n12 c12)) (by kernel_rfl) (HZ.out.drew) (fun hHeld => ?_)
      apply tkJ 0
      apply tkJ 1
      refine wpAnyH_ready (rs := [2]) (by kernel_rfl) (by simp) ?_
      refine AllReadyH.cons rfl (fun K hK => ?_) AllReadyH.nil
      go_simp
      go_at_call 71
      with_reducible refine (lK.out _).mono ?_
      rintro e u1 ⟨rfl, hbz⟩
      try go_wp2_with fail
      refine hK.out _ _ (hHeld.next hbz) ?_
      clear hHeld hbz hK K
      intro hHeld
      try simp only [Act.put,pA,pB,pC,pD,pE,pF]
      apply tkJ 3
      apply tkJ 4
      apply skJ 5
      apply skJ 6
      apply skJ 7
      apply tkJ 8
      apply tkJ 9
      apply tkJ 10
      apply tkJ 11
      refine wpAnyH_ready (rs := [12]) (by kernel_rfl) (by simp) ?_
      refine AllReadyH.cons rfl (fun K hK => ?_) AllReadyH.nil
      go_simp
      go_at_call 71
      with_reducible refine (lI.out _).mono ?_
      rintro e u2 ⟨rfl, hbz⟩
      try go_wp2_with fail
      refine hK.out _ _ (hHeld.next hbz) ?_
      clear hHeld hbz hK K
      intro hHeld
      try simp only [Act.put,pA,pB,pC,pD,pE,pF]
      apply tkJ 13
      apply tkJ 14
      apply tkJ 15
      apply tkJ 16
      apply tkJ 17
      apply tkJ 18
      apply tkJ 19
      apply tkJ 20
      apply tkJ 21
      apply tkJ 22
      apply tkJ 24
      apply tkJ 25
      refine wpAnyH_ready (rs := [23]) (by kernel_rfl) (by simp) ?_
      refine AllReadyH.cons rfl (fun K hK => ?_) AllReadyH.nil
      go_simp
      go_at_call 71
      with_reducible refine (lR.out _).mono ?_
      rintro e u3 ⟨rfl, hbz⟩
      try go_wp2_with fail
      refine hK.out _ _ (hHeld.next hbz) ?_
      clear hHeld hbz hK K
      intro hHeld
      try simp only [Act.put,pA,pB,pC,pD,pE,pF]
      refine wpAnyH_ready (rs := [26]) (by kernel_rfl) (by simp) ?_
      refine AllReadyH.cons rfl (fun K hK => ?_) AllReadyH.nil
      go_simp
      go_at_call 73
      with_reducible refine (cO.out _).mono ?_
      rintro e u4 ⟨rfl, hbz⟩
      try go_wp2_with fail
      refine hK.out _ _ (hHeld.next hbz) ?_
      clear hHeld hbz hK K
      intro hHeld
      try simp only [Act.put,pA,pB,pC,pD,pE,pF]
      apply tkJ 27
      apply tkJ 28
      apply tkJ 29
      apply tkJ 30
      apply tkJ 31
      refine wpAnyH_ready (rs := [32]) (by kernel_rfl) (by simp) ?_
      refine AllReadyH.cons rfl (fun K hK => ?_) AllReadyH.nil
      go_simp
      go_at_call 71
      with_reducible refine (lR.out _).mono ?_
      rintro e u5 ⟨rfl, hbz⟩
      try go_wp2_with fail
      refine hK.out _ _ (hHeld.next hbz) ?_
      clear hHeld hbz hK K
      intro hHeld
      try simp only [Act.put,pA,pB,pC,pD,pE,pF]
      apply tkJ 33
      apply tkJ 34
      apply skJ 35
      apply skJ 36
      apply skJ 37
      apply skJ 38
      apply tkJ 39
      apply tkJ 40
      refine wpAnyH_done (by kernel_rfl) ?_ _
      go_wp2_with fail
      exact hK _ _ _ _ _ _ _ _ _ _ _ _ _ _ _ _ _ _ _ _ _ _ _ _ _ _ _ _ _ _ _ _ _ _ _ _ _ _ _ _ _ _ (by first | (rw [HV.out]; done) | (rw [HV.out]; simp)) ⟨hHeld⟩
 · skip
   by_cases h1 : key = 0
   rotate_left
   · have k1 : (key != 0) = true := bne_iff_ne.2 h1
     clear h1
     have HV := Lib.hid (show b5R false true false key tid lo hi = true by unfold b5R; rw [k1]; rfl)
     as_aux_lemma =>
      refine wp_region_held_drew (S := HX w 25 34 w.heap.size (w.heap.size + 1) (.int .i64 p.f0) (.int .i64 p.f1) (.slice B2 n d2) (.slice B3 p.f3.length d3) (.int .i64 x.f0) (.int .i64 dev) (.int .i64 dto) (.int .i64 kd) (.slice A4 n4 c4) (.int .u32 xm) (.int .u32 key) (.int .u32 tid) (.int .u64 lo) (.int .u64 hi) (.int .i64 x.f9) (.slice A11 x.f10.length c11) (.slice A12 n12 c12)) (by kernel_rfl) (HZ.out.drew) (fun hHeld => ?_)
      apply tkJ 0
      apply tkJ 1
      refine wpAnyH_ready (rs := [2]) (by kernel_rfl) (by simp) ?_
      refine AllReadyH.cons rfl (fun K hK => ?_) AllReadyH.nil
      go_simp
      go_at_call 71
      with_reducible refine (lK.out _).mono ?_
      rintro e u1 ⟨rfl, hbz⟩
      try go_wp2_with fail
      refine hK.out _ _ (hHeld.next hbz) ?_
      clear hHeld hbz hK K
      intro hHeld
      try simp only [Act.put,pA,pB,pC,pD,pE,pF]
      apply tkJ 3
      apply tkJ 4
      apply tkJ 5
      apply tkJ 6
      apply tkJ 7
      apply tkJ 8
      apply tkJ 9
      apply skJ 10
      apply skJ 11
      apply skJ 12
      apply skJ 13
      apply skJ 14
      apply skJ 15
      apply skJ 16
      apply skJ 17
      apply skJ 18
      apply tkJ 19
      apply tkJ 20
      apply skJ 21
      apply skJ 22
      apply skJ 23
      apply skJ 24
      apply skJ 25
      apply skJ 26
      apply skJ 27
      apply tkJ 28
      apply tkJ 29
      apply skJ 30
      apply skJ 31
      apply skJ 32
      apply skJ 33
      apply skJ 34
      apply skJ 35
      apply skJ 36
      apply skJ 37
      apply skJ 38
      apply skJ 39
      apply tkJ 40
      refine wpAnyH_done (by kernel_rfl) ?_ _
      go_wp2_with fail
      exact hK _ _ _ _ _ _ _ _ _ _ _ _ _ _ _ _ _ _ _ _ _ _ _ _ _ _ _ _ _ _ _ _ _ _ _ _ _ _ _ _ _ _ (by first | (rw [HV.out]; done) | (rw [HV.out]; simp)) ⟨hHeld⟩
   have k1 : (key != 0) = false := by rw [h1]; rfl
   clear h1
   generalize h1S : oneS lo hi = b1 at *
   cases b1 with
   | false =>
     have HV := Lib.hid (show b5R false true false key tid lo hi = !(lo == 0 && hi == 0) by unfold b5R; rw [k1, h1S]; rfl)
     clear h1S
     as_aux_lemma =>
      refine wp_region_held_drew (S := HX w 25 34 w.heap.size (w.heap.size + 1) (.int .i64 p.f0) (.int .i64 p.f1) (.slice B2 n d2) (.slice B3 p.f3.length d3) (.int .i64 x.f0) (.int .i64 dev) (.int .i64 dto) (.int .i64 kd) (.slice A4 n4 c4) (.int .u32 xm) (.int .u32 key) (.int .u32 tid) (.int .u64 lo) (.int .u64 hi) (.int .i64 x.f9) (.slice A11 x.f10.length c11) (.slice A12 n12 c12)) (by kernel_rfl) (HZ.out.drew) (fun hHeld => ?_)
      apply tkJ 0
      apply tkJ 1
      refine wpAnyH_ready (rs := [2]) (by kernel_rfl) (by simp) ?_
      refine AllReadyH.cons rfl (fun K hK => ?_) AllReadyH.nil
      go_simp
      go_at_call 71
      with_reducible refine (lK.out _).mono ?_
      rintro e u1 ⟨rfl, hbz⟩
      try go_wp2_with fail
      refine hK.out _ _ (hHeld.next hbz) ?_
      clear hHeld hbz hK K
      intro hHeld
      try simp only [Act.put,pA,pB,pC,pD,pE,pF]
      apply tkJ 3
      apply tkJ 4
      apply tkJ 5
      apply tkJ 6
      apply tkJ 7
      apply tkJ 8
      apply tkJ 9
      apply tkJ 10
      apply tkJ 11
      refine wpAnyH_ready (rs := [12]) (by kernel_rfl) (by simp) ?_
      refine AllReadyH.cons rfl (fun K hK => ?_) AllReadyH.nil
      go_simp
      go_at_call 71
      with_reducible refine (lI.out _).mono ?_
      rintro e u2 ⟨rfl, hbz⟩
      try go_wp2_with fail
      refine hK.out _ _ (hHeld.next hbz) ?_
      clear hHeld hbz hK K
      intro hHeld
      try simp only [Act.put,pA,pB,pC,pD,pE,pF]
      apply tkJ 13
      apply tkJ 14
      apply skJ 15
      apply skJ 16
      apply skJ 17
      apply tkJ 18
      apply tkJ 19
      apply tkJ 20
      apply tkJ 21
      apply tkJ 22
      apply tkJ 24
      apply tkJ 25
      refine wpAnyH_ready (rs := [23]) (by kernel_rfl) (by simp) ?_
      refine AllReadyH.cons rfl (fun K hK => ?_) AllReadyH.nil
      go_simp
      go_at_call 71
      with_reducible refine (lR.out _).mono ?_
      rintro e u3 ⟨rfl, hbz⟩
      try go_wp2_with fail
      refine hK.out _ _ (hHeld.next hbz) ?_
      clear hHeld hbz hK K
      intro hHeld
      try simp only [Act.put,pA,pB,pC,pD,pE,pF]
      refine wpAnyH_ready (rs := [26]) (by kernel_rfl) (by simp) ?_
      refine AllReadyH.cons rfl (fun K hK => ?_) AllReadyH.nil
      go_simp
      go_at_call 73
      with_reducible refine (cO.out _).mono ?_
      rintro e u4 ⟨rfl, hbz⟩
      try go_wp2_with fail
      refine hK.out _ _ (hHeld.next hbz) ?_
      clear hHeld hbz hK K
      intro hHeld
      try simp only [Act.put,pA,pB,pC,pD,pE,pF]
      apply tkJ 27
      apply tkJ 28
      apply tkJ 29
      apply tkJ 30
      apply tkJ 31
      refine wpAnyH_ready (rs := [32]) (by kernel_rfl) (by simp) ?_
      refine AllReadyH.cons rfl (fun K hK => ?_) AllReadyH.nil
      go_simp
      go_at_call 71
      with_reducible refine (lR.out _).mono ?_
      rintro e u5 ⟨rfl, hbz⟩
      try go_wp2_with fail
      refine hK.out _ _ (hHeld.next hbz) ?_
      clear hHeld hbz hK K
      intro hHeld
      try simp only [Act.put,pA,pB,pC,pD,pE,pF]
      apply tkJ 33
      apply tkJ 34
      apply tkJ 35
      apply tkJ 36
      apply tkJ 37
      apply tkJ 38
      apply tkJ 39
      apply tkJ 40
      refine wpAnyH_done (by kernel_rfl) ?_ _
      go_wp2_with fail
      exact hK _ _ _ _ _ _ _ _ _ _ _ _ _ _ _ _ _ _ _ _ _ _ _ _ _ _ _ _ _ _ _ _ _ _ _ _ _ _ _ _ _ _ (by first | (rw [HV.out]; done) | (rw [HV.out]; simp)) ⟨hHeld⟩
   | true =>
     have HV := Lib.hid (show b5R false true false key tid lo hi = true by unfold b5R; rw [k1, h1S]; rfl)
     clear h1S
     as_aux_lemma =>
      refine wp_region_held_drew (S := HX w 25 34 w.heap.size (w.heap.size + 1) (.int .i64 p.f0) (.int .i64 p.f1) (.slice B2 n d2) (.slice B3 p.f3.length d3) (.int .i64 x.f0) (.int .i64 dev) (.int .i64 dto) (.int .i64 kd) (.slice A4 n4 c4) (.int .u32 xm) (.int .u32 key) (.int .u32 tid) (.int .u64 lo) (.int .u64 hi) (.int .i64 x.f9) (.slice A11 x.f10.length c11) (.slice A12 n12 c12)) (by kernel_rfl) (HZ.out.drew) (fun hHeld => ?_)
      apply tkJ 0
      apply tkJ 1
      refine wpAnyH_ready (rs := [2]) (by kernel_rfl) (by simp) ?_
      refine AllReadyH.cons rfl (fun K hK => ?_) AllReadyH.nil
      go_simp
      go_at_call 71
      with_reducible refine (lK.out _).mono ?_
      rintro e u1 ⟨rfl, hbz⟩
      try go_wp2_with fail
      refine hK.out _ _ (hHeld.next hbz) ?_
      clear hHeld hbz hK K
      intro hHeld
      try simp only [Act.put,pA,pB,pC,pD,pE,pF]
      apply tkJ 3
      apply tkJ 4
      apply tkJ 5
      apply tkJ 6
      apply tkJ 7
      apply tkJ 8
      apply tkJ 9
      apply tkJ 10
      apply tkJ 11
      refine wpAnyH_ready (rs := [12]) (by kernel_rfl) (by simp) ?_
      refine AllReadyH.cons rfl (fun K hK => ?_) AllReadyH.nil
      go_simp
      go_at_call 71
      with_reducible refine (lI.out _).mono ?_
      rintro e u2 ⟨rfl, hbz⟩
      try go_wp2_with fail
      refine hK.out _ _ (hHeld.next hbz) ?_
      clear hHeld hbz hK K
      intro hHeld
      try simp only [Act.put,pA,pB,pC,pD,pE,pF]
      apply tkJ 13
      apply tkJ 14
      apply skJ 15
      apply skJ 16
      apply skJ 17
      apply tkJ 18
      apply tkJ 19
      apply tkJ 20
      apply tkJ 21
      apply tkJ 22
      apply tkJ 24
      apply tkJ 25
      refine wpAnyH_ready (rs := [23]) (by kernel_rfl) (by simp) ?_
      refine AllReadyH.cons rfl (fun K hK => ?_) AllReadyH.nil
      go_simp
      go_at_call 71
      with_reducible refine (lR.out _).mono ?_
      rintro e u3 ⟨rfl, hbz⟩
      try go_wp2_with fail
      refine hK.out _ _ (hHeld.next hbz) ?_
      clear hHeld hbz hK K
      intro hHeld
      try simp only [Act.put,pA,pB,pC,pD,pE,pF]
      refine wpAnyH_ready (rs := [26]) (by kernel_rfl) (by simp) ?_
      refine AllReadyH.cons rfl (fun K hK => ?_) AllReadyH.nil
      go_simp
      go_at_call 73
      with_reducible refine (cO.out _).mono ?_
      rintro e u4 ⟨rfl, hbz⟩
      try go_wp2_with fail
      refine hK.out _ _ (hHeld.next hbz) ?_
      clear hHeld hbz hK K
      intro hHeld
      try simp only [Act.put,pA,pB,pC,pD,pE,pF]
      apply tkJ 27
      apply tkJ 28
      apply tkJ 29
      apply skJ 30
      apply skJ 31
      apply skJ 32
      apply skJ 33
      apply skJ 34
      apply skJ 35
      apply skJ 36
      apply skJ 37
      apply skJ 38
      apply skJ 39
      apply tkJ 40
      refine wpAnyH_done (by kernel_rfl) ?_ _
      go_wp2_with fail
      exact hK _ _ _ _ _ _ _ _ _ _ _ _ _ _ _ _ _ _ _ _ _ _ _ _ _ _ _ _ _ _ _ _ _ _ _ _ _ _ _ _ _ _ (by first | (rw [HV.out]; done) | (rw [HV.out]; simp)) ⟨hHeld⟩
 · skip
   by_cases h1 : key = 0
   rotate_left
   · have k1 : (key != 0) = true := bne_iff_ne.2 h1
     clear h1
     have HV := Lib.hid (show b5R false false false key tid lo hi = true by unfold b5R; rw [k1]; rfl)
     as_aux_lemma =>
      refine wp_region_held_drew (S := HX w 25 34 w.heap.size (w.heap.size + 1) (.int .i64 p.f0) (.int .i64 p.f1) (.slice B2 n d2) (.slice B3 p.f3.length d3) (.int .i64 x.f0) (.int .i64 dev) (.int .i64 dto) (.int .i64 kd) (.slice A4 n4 c4) (.int .u32 xm) (.int .u32 key) (.int .u32 tid) (.int .u64 lo) (.int .u64 hi) (.int .i64 x.f9) (.slice A11 x.f10.length c11) (.slice A12 n12 c12)) (by kernel_rfl) (HZ.out.drew) (fun hHeld => ?_)
      apply tkJ 0
      apply tkJ 1
      refine wpAnyH_ready (rs := [2]) (by kernel_rfl) (by simp) ?_
      refine AllReadyH.cons rfl (fun K hK => ?_) AllReadyH.nil
      go_simp
      go_at_call 71
      with_reducible refine (lK.out _).mono ?_
      rintro e u1 ⟨rfl, hbz⟩
      try go_wp2_with fail
      refine hK.out _ _ (hHeld.next hbz) ?_
      clear hHeld hbz hK K
      intro hHeld
      try simp only [Act.put,pA,pB,pC,pD,pE,pF]
      apply tkJ 3
      apply tkJ 4
      apply tkJ 5
      apply tkJ 6
      apply tkJ 7
      apply tkJ 8
      apply tkJ 9
      apply skJ 10
      apply skJ 11
      apply skJ 12
      apply skJ 13
      apply skJ 14
      apply skJ 15
      apply skJ 16
      apply skJ 17
      apply skJ 18
      apply tkJ 19
      apply tkJ 20
      apply skJ 21
      apply skJ 22
      apply skJ 23
      apply skJ 24
      apply skJ 25
      apply skJ 26
      apply skJ 27
      apply tkJ 28
      apply tkJ 29
      apply skJ 30
      apply skJ 31
      apply skJ 32
      apply skJ 33
      apply skJ 34
      apply skJ 35
      apply skJ 36
      apply skJ 37
      apply skJ 38
      apply skJ 39
      apply tkJ 40
      refine wpAnyH_done (by kernel_rfl) ?_ _
      go_wp2_with fail
      exact hK _ _ _ _ _ _ _ _ _ _ _ _ _ _ _ _ _ _ _ _ _ _ _ _ _ _ _ _ _ _ _ _ _ _ _ _ _ _ _ _ _ _ (by first | (rw [HV.out]; done) | (rw [HV.out]; simp)) ⟨hHeld⟩
   have k1 : (key != 0) = false := by rw [h1]; rfl
   clear h1
   by_cases h2 : tid = 0
   rotate_left
   · have k2 : (tid != 0) = true := bne_iff_ne.2 h2
     clear h2
     have HV := Lib.hid (show b5R false false false key tid lo hi = true by unfold b5R; rw [k1, k2]; rfl)
     as_aux_lemma =>
      refine wp_region_held_drew (S := HX w 25 34 w.heap.size (w.heap.size + 1) (.int .i64 p.f0) (.int .i64 p.f1) (.slice B2 n d2) (.slice B3 p.f3.length d3) (.int .i64 x.f0) (.int .i64 dev) (.int .i64 dto) (.int .i64 kd) (.slice A4 n4 c4) (.int .u32 xm) (.int .u32 key) (.int .u32 tid) (.int .u64 lo) (.int .u64 hi) (.int .i64 x.f9) (.slice A11 x.f10.length c11) (.slice A12 n12 c12)) (by kernel_rfl) (HZ.out.drew) (fun hHeld => ?_)
      apply tkJ 0
      apply tkJ 1
      refine wpAnyH_ready (rs := [2]) (by kernel_rfl) (by simp) ?_
      refine AllReadyH.cons rfl (fun K hK => ?_) AllReadyH.nil
      go_simp
      go_at_call 71
      with_reducible refine (lK.out _).mono ?_
      rintro e u1 ⟨rfl, hbz⟩
      try go_wp2_with fail
      refine hK.out _ _ (hHeld.next hbz) ?_
      clear hHeld hbz hK K
      intro hHeld
      try simp only [Act.put,pA,pB,pC,pD,pE,pF]
      apply tkJ 3
      apply tkJ 4
      apply tkJ 5
      apply tkJ 6
      apply tkJ 7
      apply tkJ 8
      apply tkJ 9
      apply tkJ 10
      apply tkJ 11
      refine wpAnyH_ready (rs := [12]) (by kernel_rfl) (by simp) ?_
      refine AllReadyH.cons rfl (fun K hK => ?_) AllReadyH.nil
      go_simp
      go_at_call 71
      with_reducible refine (lI.out _).mono ?_
      rintro e u2 ⟨rfl, hbz⟩
      try go_wp2_with fail
      refine hK.out _ _ (hHeld.next hbz) ?_
      clear hHeld hbz hK K
      intro hHeld
      try simp only [Act.put,pA,pB,pC,pD,pE,pF]
      apply tkJ 13
      apply tkJ 14
      apply tkJ 15
      apply tkJ 16
      apply tkJ 17
      apply tkJ 18
      apply tkJ 19
      apply tkJ 20
      apply skJ 21
      apply skJ 22
      apply skJ 23
      apply skJ 24
      apply skJ 25
      apply skJ 26
      apply skJ 27
      apply tkJ 28
      apply tkJ 29
      apply skJ 30
      apply skJ 31
      apply skJ 32
      apply skJ 33
      apply skJ 34
      apply skJ 35
      apply skJ 36
      apply skJ 37
      apply skJ 38
      apply skJ 39
      apply tkJ 40
      refine wpAnyH_done (by kernel_rfl) ?_ _
      go_wp2_with fail
      exact hK _ _ _ _ _ _ _ _ _ _ _ _ _ _ _ _ _ _ _ _ _ _ _ _ _ _ _ _ _ _ _ _ _ _ _ _ _ _ _ _ _ _ (by first | (rw [HV.out]; done) | (rw [HV.out]; simp)) ⟨hHeld⟩
   have k2 : (tid != 0) = false := by rw [h2]; rfl
   clear h2
   generalize h1S : oneS lo hi = b1 at *
   cases b1 with
   | false =>
     have HV := Lib.hid (show b5R false false false key tid lo hi = !(lo == 0 && hi == 0) by unfold b5R; rw [k1, k2, h1S]; rfl)
     clear h1S
     as_aux_lemma =>
      refine wp_region_held_drew (S := HX w 25 34 w.heap.size (w.heap.size + 1) (.int .i64 p.f0) (.int .i64 p.f1) (.slice B2 n d2) (.slice B3 p.f3.length d3) (.int .i64 x.f0) (.int .i64 dev) (.int .i64 dto) (.int .i64 kd) (.slice A4 n4 c4) (.int .u32 xm) (.int .u32 key) (.int .u32 tid) (.int .u64 lo) (.int .u64 hi) (.int .i64 x.f9) (.slice A11 x.f10.length c11) (.slice A12 n12 c12)) (by kernel_rfl) (HZ.out.drew) (fun hHeld => ?_)
      apply tkJ 0
      apply tkJ 1
      refine wpAnyH_ready (rs := [2]) (by kernel_rfl) (by simp) ?_
      refine AllReadyH.cons rfl (fun K hK => ?_) AllReadyH.nil
      go_simp
      go_at_call 71
      with_reducible refine (lK.out _).mono ?_
      rintro e u1 ⟨rfl, hbz⟩
      try go_wp2_with fail
      refine hK.out _ _ (hHeld.next hbz) ?_
      clear hHeld hbz hK K
      intro hHeld
      try simp only [Act.put,pA,pB,pC,pD,pE,pF]
      apply tkJ 3
      apply tkJ 4
      apply tkJ 5
      apply tkJ 6
      apply tkJ 7
      apply tkJ 8
      apply tkJ 9
      apply tkJ 10
      apply tkJ 11
      refine wpAnyH_ready (rs := [12]) (by kernel_rfl) (by simp) ?_
      refine AllReadyH.cons rfl (fun K hK => ?_) AllReadyH.nil
      go_simp
      go_at_call 71
      with_reducible refine (lI.out _).mono ?_
      rintro e u2 ⟨rfl, hbz⟩
      try go_wp2_with fail
      refine hK.out _ _ (hHeld.next hbz) ?_
      clear hHeld hbz hK K
      intro hHeld
      try simp only [Act.put,pA,pB,pC,pD,pE,pF]
      apply tkJ 13
      apply tkJ 14
      apply tkJ 15
      apply tkJ 16
      apply tkJ 17
      apply tkJ 18
      apply tkJ 19
      apply tkJ 20
      apply tkJ 21
      apply tkJ 22
      apply tkJ 24
      apply tkJ 25
      refine wpAnyH_ready (rs := [23]) (by kernel_rfl) (by simp) ?_
      refine AllReadyH.cons rfl (fun K hK => ?_) AllReadyH.nil
      go_simp
      go_at_call 71
      with_reducible refine (lR.out _).mono ?_
      rintro e u3 ⟨rfl, hbz⟩
      try go_wp2_with fail
      refine hK.out _ _ (hHeld.next hbz) ?_
      clear hHeld hbz hK K
      intro hHeld
      try simp only [Act.put,pA,pB,pC,pD,pE,pF]
      refine wpAnyH_ready (rs := [26]) (by kernel_rfl) (by simp) ?_
      refine AllReadyH.cons rfl (fun K hK => ?_) AllReadyH.nil
      go_simp
      go_at_call 73
      with_reducible refine (cO.out _).mono ?_
      rintro e u4 ⟨rfl, hbz⟩
      try go_wp2_with fail
      refine hK.out _ _ (hHeld.next hbz) ?_
      clear hHeld hbz hK K
      intro hHeld
      try simp only [Act.put,pA,pB,pC,pD,pE,pF]
      apply tkJ 27
      apply tkJ 28
      apply tkJ 29
      apply tkJ 30
      apply tkJ 31
      refine wpAnyH_ready (rs := [32]) (by kernel_rfl) (by simp) ?_
      refine AllReadyH.cons rfl (fun K hK => ?_) AllReadyH.nil
      go_simp
      go_at_call 71
      with_reducible refine (lR.out _).mono ?_
      rintro e u5 ⟨rfl, hbz⟩
      try go_wp2_with fail
      refine hK.out _ _ (hHeld.next hbz) ?_
      clear hHeld hbz hK K
      intro hHeld
      try simp only [Act.put,pA,pB,pC,pD,pE,pF]
      apply tkJ 33
      apply tkJ 34
      apply tkJ 35
      apply tkJ 36
      apply tkJ 37
      apply tkJ 38
      apply tkJ 39
      apply tkJ 40
      refine wpAnyH_done (by kernel_rfl) ?_ _
      go_wp2_with fail
      exact hK _ _ _ _ _ _ _ _ _ _ _ _ _ _ _ _ _ _ _ _ _ _ _ _ _ _ _ _ _ _ _ _ _ _ _ _ _ _ _ _ _ _ (by first | (rw [HV.out]; done) | (rw [HV.out]; simp)) ⟨hHeld⟩
   | true =>
     have HV := Lib.hid (show b5R false false false key tid lo hi = true by unfold b5R; rw [k1, k2, h1S]; rfl)
     clear h1S
     as_aux_lemma =>
      refine wp_region_held_drew (S := HX w 25 34 w.heap.size (w.heap.size + 1) (.int .i64 p.f0) (.int .i64 p.f1) (.slice B2 n d2) (.slice B3 p.f3.length d3) (.int .i64 x.f0) (.int .i64 dev) (.int .i64 dto) (.int .i64 kd) (.slice A4 n4 c4) (.int .u32 xm) (.int .u32 key) (.int .u32 tid) (.int .u64 lo) (.int .u64 hi) (.int .i64 x.f9) (.slice A11 x.f10.length c11) (.slice A12 n12 c12)) (by kernel_rfl) (HZ.out.drew) (fun hHeld => ?_)
      apply tkJ 0
      apply tkJ 1
      refine wpAnyH_ready (rs := [2]) (by kernel_rfl) (by simp) ?_
      refine AllReadyH.cons rfl (fun K hK => ?_) AllReadyH.nil
      go_simp
      go_at_call 71
      with_reducible refine (lK.out _).mono ?_
      rintro e u1 ⟨rfl, hbz⟩
      try go_wp2_with fail
      refine hK.out _ _ (hHeld.next hbz) ?_
      clear hHeld hbz hK K
      intro hHeld
      try simp only [Act.put,pA,pB,pC,pD,pE,pF]
      apply tkJ 3
      apply tkJ 4
      apply tkJ 5
      apply tkJ 6
      apply tkJ 7
      apply tkJ 8
      apply tkJ 9
      apply tkJ 10
      apply tkJ 11
      refine wpAnyH_ready (rs := [12]) (by kernel_rfl) (by simp) ?_
      refine AllReadyH.cons rfl (fun K hK => ?_) AllReadyH.nil
      go_simp
      go_at_call 71
      with_reducible refine (lI.out _).mono ?_
      rintro e u2 ⟨rfl, hbz⟩
      try go_wp2_with fail
      refine hK.out _ _ (hHeld.next hbz) ?_
      clear hHeld hbz hK K
      intro hHeld
      try simp only [Act.put,pA,pB,pC,pD,pE,pF]
      apply tkJ 13
      apply tkJ 14
      apply tkJ 15
      apply tkJ 16
      apply tkJ 17
      apply tkJ 18
      apply tkJ 19
      apply tkJ 20
      apply tkJ 21
      apply tkJ 22
      apply tkJ 24
      apply tkJ 25
      refine wpAnyH_ready (rs := [23]) (by kernel_rfl) (by simp) ?_
      refine AllReadyH.cons rfl (fun K hK => ?_) AllReadyH.nil
      go_simp
      go_at_call 71
      with_reducible refine (lR.out _).mono ?_
      rintro e u3 ⟨rfl, hbz⟩
      try go_wp2_with fail
      refine hK.out _ _ (hHeld.next hbz) ?_
      clear hHeld hbz hK K
      intro hHeld
      try simp only [Act.put,pA,pB,pC,pD,pE,pF]
      refine wpAnyH_ready (rs := [26]) (by kernel_rfl) (by simp) ?_
      refine AllReadyH.cons rfl (fun K hK => ?_) AllReadyH.nil
      go_simp
      go_at_call 73
      with_reducible refine (cO.out _).mono ?_
      rintro e u4 ⟨rfl, hbz⟩
      try go_wp2_with fail
      refine hK.out _ _ (hHeld.next hbz) ?_
      clear hHeld hbz hK K
      intro hHeld
      try simp only [Act.put,pA,pB,pC,pD,pE,pF]
      apply tkJ 27
      apply tkJ 28
      apply tkJ 29
      apply skJ 30
      apply skJ 31
      apply skJ 32
      apply skJ 33
      apply skJ 34
      apply skJ 35
      apply skJ 36
      apply skJ 37
      apply skJ 38
      apply skJ 39
      apply tkJ 40
      refine wpAnyH_done (by kernel_rfl) ?_ _
      go_wp2_with fail
      exact hK _ _ _ _ _ _ _ _ _ _ _ _ _ _ _ _ _ _ _ _ _ _ _ _ _ _ _ _ _ _ _ _ _ _ _ _ _ _ _ _ _ _ (by first | (rw [HV.out]; done) | (rw [HV.out]; simp)) ⟨hHeld⟩
end Go.Proofs.YtpdinahdcedmkaaGreatDoor.Ext
